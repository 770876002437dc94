import Derived.Test.YtlbioffpcoikaaaEScan3
import Derived.Deep.RegionLaw
namespace Go.Proofs.Ytlbioffpcoikaaa.PW
open Go.RowKit Go.Proofs.YtlbioffpcoikaaaW.PrintWords Go.Proofs.YtlbioffpcoikaaaW.PrintLast Go.Proofs.YtlbioffpcoikaaaW.PrintMore
set_option linter.unusedVariables false
set_option linter.unusedSimpArgs false
abbrev Z40 : Array Value := #[.int .i64 0, .int .i64 0, .int .i64 0, .int .i64 0, .int .i64 0, .int .i64 0, .int .i64 0, .int .i64 0, .int .i64 0, .bool false, .slice none 0 0, .slice none 0 0]
abbrev M40 (k f t n1 n2 n3 n4 n5 n6 : Int) (o : Bool) (ve vd : Value) : Array Value := #[.int .i64 k, .int .i64 f, .int .i64 t, .int .i64 n1, .int .i64 n2, .int .i64 n3, .int .i64 n4, .int .i64 n5, .int .i64 n6, .bool o, ve, vd]
def toS (x : Int × Int × Int × List Int) : S34 := ⟨x.1, x.2.1, x.2.2.1, x.2.2.2⟩
def scEnts (l : List Int) : Nat → List S34 → Except Int Int → List S34 × Except Int Int
  | 0, es, st => (es, st)
  | _ + 1, es, .error x => (es, .error x)
  | k + 1, es, .ok a => scEnts l k (es ++ [toS (scEntry l (.ok a)).1]) (scEntry l (.ok a)).2
def scLim (n : Int) (st : Except Int Int) : Except Int Int := match st with
  | .error x => .error x
  | .ok a => if 8 < n then .error 6 else .ok a
def limB (n : Int) (st : Except Int Int) : Bool := match st with
  | .error _ => false
  | .ok _ => decide (8 < n)
theorem lim_false {n : Int} {st : Except Int Int} (h : limB n st = false) : st = scLim n st := by
  cases st with
  | error x => rfl
  | ok a => unfold limB at h; unfold scLim; dsimp only at h ⊢; rw [if_neg (by simpa using h)]
theorem lim_true {n : Int} {st : Except Int Int} (h : limB n st = true) : ∃ a, st = .ok a ∧ 8 < n := by
  cases st with
  | error x => cases h
  | ok a => exact ⟨a, rfl, by unfold limB at h; simpa using h⟩
theorem scNum_bd {l : List Int} (hok : okLen l) {st s1 : Except Int Int} {least n : Int} (h : scNum l st least = (n, s1)) : 0 ≤ n ∧ n ≤ 1099511627776 := by
  unfold scNum at h
  cases st with
  | error x => dsimp only at h; cases h; omega
  | ok a =>
    dsimp only at h
    cases hn : rdNum l a least with
    | error x => rw [hn] at h; cases h; omega
    | ok p =>
      obtain ⟨k, a1⟩ := p
      rw [hn] at h; cases h
      have := rdNum_ok hok hn
      omega
theorem Kd.S_away_ge {α : Type} {d : Kd α} {e base : Nat} {ok : Nat → Prop} {w : World} {v : Value} {xs : List α} (h : Kd.S d e w base ok v xs) {k : Nat} (hk : w.heap.size ≤ k) : some k ≠ v.ownBlock := fun he => by
  have := Kd.S_lt h k he.symm
  omega
/-- A scan's caller with two blocks of its own. -/
structure C30 (w0 W : World) (g : Nat) (A : Option Addr) (n c : Nat) (st : Except Int Int) (X : Nat) (cX : Array Value) (m : Nat) (cm : Array Value) : Prop where
  below : Below w0.heap.size w0 W
  st : IsSt W g A n c st
  g0 : w0.heap.size ≤ g
  x0 : w0.heap.size ≤ X
  m0 : w0.heap.size ≤ m
  gx : X ≠ g
  gm : m ≠ g
  xm : X ≠ m
  x : Bk W X cX 40
  m : Bk W m cm 40
theorem IsSt.blk {w : World} {g : Nat} {A : Option Addr} {n c : Nat} {st : Except Int Int} (h : IsSt w g A n c st) : ∃ cells, w.heap[g]? = some (.cells cells 84 (0, 0)) := by
  cases st with
  | ok a => exact ⟨_, (show IsSc w g A n c a 0 from h).1⟩
  | error x => obtain ⟨_, a, h1⟩ := h; exact ⟨_, h1.1⟩
namespace C30
variable {w0 W W1 : World} {g : Nat} {A : Option Addr} {n c : Nat} {st s1 : Except Int Int} {X : Nat} {cX : Array Value} {m : Nat} {cm : Array Value}
theorem call (h : C30 w0 W g A n c st X cX m cm) (B : Below w0.heap.size w0 W1) (K : KeepBut W W1 g none) (R : IsSt W1 g A n c s1) : C30 w0 W1 g A n c s1 X cX m cm :=
  ⟨B, R, h.g0, h.x0, h.m0, h.gx, h.gm, h.xm, h.x.keep K h.gx, h.m.keep K h.gm⟩
theorem setX (h : C30 w0 W g A n c st X cX m cm) (j : Nat) (u : Value) : C30 w0 (W.setCell ⟨X, j, none⟩ u) g A n c st X (cX.setIfInBounds j u) m cm :=
  ⟨h.below.setCell (p := ⟨X, j, none⟩) h.x0 _, h.st.far _ _ (Ne.symm h.gx), h.g0, h.x0, h.m0, h.gx, h.gm, h.xm,
    by have := h.x; unfold Bk at this ⊢; simp [World.setCell, Array.getElem?_modify, this], (Below.heap_setCell W ⟨X, j, none⟩ u m (Ne.symm h.xm)).trans h.m⟩
theorem setM (h : C30 w0 W g A n c st X cX m cm) (j : Nat) (u : Value) : C30 w0 (W.setCell ⟨m, j, none⟩ u) g A n c st X cX m (cm.setIfInBounds j u) :=
  ⟨h.below.setCell (p := ⟨m, j, none⟩) h.m0 _, h.st.far _ _ (Ne.symm h.gm), h.g0, h.x0, h.m0, h.gx, h.gm, h.xm,
    (Below.heap_setCell W ⟨m, j, none⟩ u X h.xm).trans h.x, by have := h.m; unfold Bk at this ⊢; simp [World.setCell, Array.getElem?_modify, this]⟩
theorem drewN (h : C30 w0 W g A n c st X cX m cm) (k : Nat) : C30 w0 (W.drewN k) g A n c st X cX m cm := ⟨pw_below_drewN h.below k, h.st.drewN k, h.g0, h.x0, h.m0, h.gx, h.gm, h.xm, h.x, h.m⟩
/-- Any step that leaves the three blocks. -/
theorem step (h : C30 w0 W g A n c st X cX m cm) (B : Below w0.heap.size w0 W1) (hg : W1.heap[g]? = W.heap[g]?) (hx : W1.heap[X]? = W.heap[X]?) (hm : W1.heap[m]? = W.heap[m]?) : C30 w0 W1 g A n c st X cX m cm :=
  ⟨B, h.st.move hg, h.g0, h.x0, h.m0, h.gx, h.gm, h.xm, hx.trans h.x, hm.trans h.m⟩
theorem grown (h : C30 w0 W g A n c st X cX m cm) (B : Below w0.heap.size w0 W1) {α : Type} {d : Kd α} {base : Nat} {ok : Nat → Prop} {v : Value} {xs : List α} (G : W.grownBy W1 v.ownBlock) (HS : Kd.S d 34 W base ok v xs) : C30 w0 W1 g A n c st X cX m cm := by
  obtain ⟨cells, hb⟩ := h.st.blk
  exact h.step B (G.block g h.st.lt (Kd.S_ne HS hb (by decide))) (G.block X h.x.lt (Kd.S_ne HS h.x (by decide))) (G.block m h.m.lt (Kd.S_ne HS h.m (by decide)))
theorem start {w0 : World} {A : Option Addr} {n c : Nat} :
    C30 w0 (((w0.alloc (.cells Z40 40 (0, 0))).alloc (.cells #[.slice A n c, .int .i64 0, .int .i64 0] 84 (0, 0))).alloc (.cells Z40 40 (0, 0))) (w0.heap.size + 1) A n c (.ok 0) w0.heap.size Z40 (w0.heap.size + 1 + 1) Z40 := by
  have h1 : (w0.alloc (.cells Z40 40 (0, 0))).heap.size = w0.heap.size + 1 := World.size_alloc _ _
  have h2 : ((w0.alloc (.cells Z40 40 (0, 0))).alloc (.cells #[.slice A n c, .int .i64 0, .int .i64 0] 84 (0, 0))).heap.size = w0.heap.size + 1 + 1 := by rw [World.size_alloc, h1]
  refine ⟨below_alloc (below_alloc (below_alloc (Below.refl _ _) _) _) _, ⟨?_, by omega, by omega⟩, by omega, by omega, by omega, by omega, by omega, by omega, ?_, ?_⟩
  · refine (Below.heap_alloc _ _ _ (by rw [h2]; omega)).trans ?_
    have := blk_new (w0.alloc (.cells Z40 40 (0, 0))) (.cells #[.slice A n c, .int .i64 0, .int .i64 0] 84 (0, 0))
    rwa [h1] at this
  · exact (Below.heap_alloc _ _ _ (by rw [h2]; omega)).trans ((Below.heap_alloc _ _ _ (by rw [h1]; omega)).trans (blk_new w0 _))
  · have := blk_new ((w0.alloc (.cells Z40 40 (0, 0))).alloc (.cells #[.slice A n c, .int .i64 0, .int .i64 0] 84 (0, 0))) (.cells Z40 40 (0, 0))
    rwa [h2] at this
theorem put40 (h : C30 w0 W g A n c st X Z40 m cm) (a0 a1 a2 a3 a4 a5 a6 a7 a8 a9 a10 a11 : Value) : C30 w0 ((((((((((((W.setCell ⟨X, 0, none⟩ a0).setCell ⟨X, 1, none⟩ a1).setCell ⟨X, 2, none⟩ a2).setCell ⟨X, 3, none⟩ a3).setCell ⟨X, 4, none⟩ a4).setCell ⟨X, 5, none⟩ a5).setCell ⟨X, 6, none⟩ a6).setCell ⟨X, 7, none⟩ a7).setCell ⟨X, 8, none⟩ a8).setCell ⟨X, 9, none⟩ a9).setCell ⟨X, 10, none⟩ a10).setCell ⟨X, 11, none⟩ a11) g A n c st X #[a0, a1, a2, a3, a4, a5, a6, a7, a8, a9, a10, a11] m cm := by
  have h0 : C30 w0 _ g A n c st X #[a0, .int .i64 0, .int .i64 0, .int .i64 0, .int .i64 0, .int .i64 0, .int .i64 0, .int .i64 0, .int .i64 0, .bool false, .slice none 0 0, .slice none 0 0] m cm := h.setX 0 a0
  have h1 : C30 w0 _ g A n c st X #[a0, a1, .int .i64 0, .int .i64 0, .int .i64 0, .int .i64 0, .int .i64 0, .int .i64 0, .int .i64 0, .bool false, .slice none 0 0, .slice none 0 0] m cm := h0.setX 1 a1
  have h2 : C30 w0 _ g A n c st X #[a0, a1, a2, .int .i64 0, .int .i64 0, .int .i64 0, .int .i64 0, .int .i64 0, .int .i64 0, .bool false, .slice none 0 0, .slice none 0 0] m cm := h1.setX 2 a2
  have h3 : C30 w0 _ g A n c st X #[a0, a1, a2, a3, .int .i64 0, .int .i64 0, .int .i64 0, .int .i64 0, .int .i64 0, .bool false, .slice none 0 0, .slice none 0 0] m cm := h2.setX 3 a3
  have h4 : C30 w0 _ g A n c st X #[a0, a1, a2, a3, a4, .int .i64 0, .int .i64 0, .int .i64 0, .int .i64 0, .bool false, .slice none 0 0, .slice none 0 0] m cm := h3.setX 4 a4
  have h5 : C30 w0 _ g A n c st X #[a0, a1, a2, a3, a4, a5, .int .i64 0, .int .i64 0, .int .i64 0, .bool false, .slice none 0 0, .slice none 0 0] m cm := h4.setX 5 a5
  have h6 : C30 w0 _ g A n c st X #[a0, a1, a2, a3, a4, a5, a6, .int .i64 0, .int .i64 0, .bool false, .slice none 0 0, .slice none 0 0] m cm := h5.setX 6 a6
  have h7 : C30 w0 _ g A n c st X #[a0, a1, a2, a3, a4, a5, a6, a7, .int .i64 0, .bool false, .slice none 0 0, .slice none 0 0] m cm := h6.setX 7 a7
  have h8 : C30 w0 _ g A n c st X #[a0, a1, a2, a3, a4, a5, a6, a7, a8, .bool false, .slice none 0 0, .slice none 0 0] m cm := h7.setX 8 a8
  have h9 : C30 w0 _ g A n c st X #[a0, a1, a2, a3, a4, a5, a6, a7, a8, a9, .slice none 0 0, .slice none 0 0] m cm := h8.setX 9 a9
  have h10 : C30 w0 _ g A n c st X #[a0, a1, a2, a3, a4, a5, a6, a7, a8, a9, a10, .slice none 0 0] m cm := h9.setX 10 a10
  have h11 : C30 w0 _ g A n c st X #[a0, a1, a2, a3, a4, a5, a6, a7, a8, a9, a10, a11] m cm := h10.setX 11 a11
  exact h11
end C30
theorem put40_heap (W : World) (X : Nat) (a0 a1 a2 a3 a4 a5 a6 a7 a8 a9 a10 a11 : Value) (k : Nat) (hk : k ≠ X) : ((((((((((((W.setCell ⟨X, 0, none⟩ a0).setCell ⟨X, 1, none⟩ a1).setCell ⟨X, 2, none⟩ a2).setCell ⟨X, 3, none⟩ a3).setCell ⟨X, 4, none⟩ a4).setCell ⟨X, 5, none⟩ a5).setCell ⟨X, 6, none⟩ a6).setCell ⟨X, 7, none⟩ a7).setCell ⟨X, 8, none⟩ a8).setCell ⟨X, 9, none⟩ a9).setCell ⟨X, 10, none⟩ a10).setCell ⟨X, 11, none⟩ a11).heap[k]? = W.heap[k]? := by
  refine (Below.heap_setCell _ _ _ k hk).trans ?_
  refine (Below.heap_setCell _ _ _ k hk).trans ?_
  refine (Below.heap_setCell _ _ _ k hk).trans ?_
  refine (Below.heap_setCell _ _ _ k hk).trans ?_
  refine (Below.heap_setCell _ _ _ k hk).trans ?_
  refine (Below.heap_setCell _ _ _ k hk).trans ?_
  refine (Below.heap_setCell _ _ _ k hk).trans ?_
  refine (Below.heap_setCell _ _ _ k hk).trans ?_
  refine (Below.heap_setCell _ _ _ k hk).trans ?_
  refine (Below.heap_setCell _ _ _ k hk).trans ?_
  refine (Below.heap_setCell _ _ _ k hk).trans ?_
  exact Below.heap_setCell _ _ _ k hk
abbrev MsgR := Int × Int × Int × Int × Int × Int × Int × Int × Int × Bool × List S34 × List Int × Int
def msgZ (x : Int) : MsgR := (0, 0, 0, 0, 0, 0, 0, 0, 0, false, [], [], x)
def msgOf (k f t n1 n2 n3 n4 n5 n6 o : Int) (es : List S34) (d : List Int) (st : Except Int Int) : MsgR := match st with
  | .error x => msgZ x
  | .ok _ => (k, f, t, n1, n2, n3, n4, n5, n6, o == 1, es, d, 0)
def refMsg (l : List Int) : MsgR :=
  let k := scOne l (.ok 0) 1 7
  let f := scOne l k.2 1 9
  let t := scOne l f.2 1 9
  let o := scOne l t.2 0 1
  let n1 := scNum l o.2 0
  let n2 := scNum l n1.2 0
  let n3 := scNum l n2.2 0
  let n4 := scNum l n3.2 0
  let n5 := scNum l n4.2 0
  let n6 := scNum l n5.2 0
  let n := scNum l n6.2 0
  let es := scEnts l n.1.toNat [] (scLim n.1 n.2)
  let d := scRow l es.2 32768
  msgOf k.1 f.1 t.1 n1.1 n2.1 n3.1 n4.1 n5.1 n6.1 o.1 es.1 d.1 (scEnd l d.2)
theorem refMsg_eq {l : List Int} {k f t o n1 n2 n3 n4 n5 n6 n : Int} {s1 s2 s3 s4 s5 s6 s7 s8 s9 s10 s11 sR sD sE : Except Int Int} {es : List S34} {d : List Int}
    (h1 : scOne l (.ok 0) 1 7 = (k, s1)) (h2 : scOne l s1 1 9 = (f, s2)) (h3 : scOne l s2 1 9 = (t, s3)) (h4 : scOne l s3 0 1 = (o, s4)) (h5 : scNum l s4 0 = (n1, s5)) (h6 : scNum l s5 0 = (n2, s6)) (h7 : scNum l s6 0 = (n3, s7))
    (h8 : scNum l s7 0 = (n4, s8)) (h9 : scNum l s8 0 = (n5, s9)) (h10 : scNum l s9 0 = (n6, s10)) (h11 : scNum l s10 0 = (n, s11)) (he : scEnts l n.toNat [] (scLim n s11) = (es, sR)) (hd : scRow l sR 32768 = (d, sD)) (hE : scEnd l sD = sE) :
    refMsg l = msgOf k f t n1 n2 n3 n4 n5 n6 o es d sE := by
  simp only [refMsg, h1, h2, h3, h4, h5, h6, h7, h8, h9, h10, h11, he, hd, hE]
def MsgPost (w0 : World) (r : MsgR) (e : Ending) (w' : World) : Prop :=
  ∃ v10_ v11_ : Value, e = .returned (.tuple #[.agg #[.int .i64 r.1, .int .i64 r.2.1, .int .i64 r.2.2.1, .int .i64 r.2.2.2.1, .int .i64 r.2.2.2.2.1, .int .i64 r.2.2.2.2.2.1, .int .i64 r.2.2.2.2.2.2.1, .int .i64 r.2.2.2.2.2.2.2.1, .int .i64 r.2.2.2.2.2.2.2.2.1, .bool r.2.2.2.2.2.2.2.2.2.1, v10_, v11_], .int .i64 r.2.2.2.2.2.2.2.2.2.2.2.2]) ∧
    Kd.S k34 34 w' w0.heap.size (fun k_ => some k_ ≠ (v11_ : Value).ownBlock) v10_ r.2.2.2.2.2.2.2.2.2.2.1 ∧ Kd.R (Kd.int .u8) 5 w' w0.heap.size (fun _ => True) v11_ r.2.2.2.2.2.2.2.2.2.2.2.1 ∧ Below w0.heap.size w0 w'
theorem res30 {W : World} {X : Nat} {a0 a1 a2 a3 a4 a5 a6 a7 a8 a9 a10 a11 e : Value} {tmps : Array Value} (h : Bk W X #[a0, a1, a2, a3, a4, a5, a6, a7, a8, a9, a10, a11] 40) (ht : tmps.getD 2 undef = .pointer (some ⟨X, 0, none⟩)) (ht2 : tmps.getD 3 undef = e) :
    (results Try.f30 tmps).run Try.prog W = .ok (.tuple #[.agg #[a0, a1, a2, a3, a4, a5, a6, a7, a8, a9, a10, a11], e]) W := by
  have q0 := h.cell 0 a0 rfl
  have q1 := h.cell 1 a1 rfl
  have q2 := h.cell 2 a2 rfl
  have q3 := h.cell 3 a3 rfl
  have q4 := h.cell 4 a4 rfl
  have q5 := h.cell 5 a5 rfl
  have q6 := h.cell 6 a6 rfl
  have q7 := h.cell 7 a7 rfl
  have q8 := h.cell 8 a8 rfl
  have q9 := h.cell 9 a9 rfl
  have q10 := h.cell 10 a10 rfl
  have q11 := h.cell 11 a11 rfl
  have t1 : tmps[2]?.getD undef = .pointer (some ⟨X, 0, none⟩) := by simpa using ht
  have t2 : tmps[3]?.getD undef = e := by simpa using ht2
  simp [results, Try.results30, go_sem, t1, t2, q0, q1, q2, q3, q4, q5, q6, q7, q8, q9, q10, q11]
set_option maxHeartbeats 4000000 in
set_option maxRecDepth 100000 in
theorem refGet_core (A : Option Addr) (c : Nat) (l : List Int) (w0 : World) (hr : Kd.C (Kd.int .u8) w0 A l.length l) (hc : l.length ≤ c) (hok : okLen l) (r : MsgR) (hres : refMsg l = r) :
    Calls Try.prog 30 #[.slice A l.length c] w0 fun e w' => MsgPost w0 r e w' := by
  have HRES := Aside0.mk hres
  clear hres
  obtain ⟨k, s1, h1⟩ : ∃ k s, scOne l (.ok 0) 1 7 = (k, s) := ⟨_, _, rfl⟩
  obtain ⟨f, s2, h2⟩ : ∃ k s, scOne l s1 1 9 = (k, s) := ⟨_, _, rfl⟩
  obtain ⟨t, s3, h3⟩ : ∃ k s, scOne l s2 1 9 = (k, s) := ⟨_, _, rfl⟩
  obtain ⟨o, s4, h4⟩ : ∃ k s, scOne l s3 0 1 = (k, s) := ⟨_, _, rfl⟩
  obtain ⟨n1, s5, h5⟩ : ∃ k s, scNum l s4 0 = (k, s) := ⟨_, _, rfl⟩
  obtain ⟨n2, s6, h6⟩ : ∃ k s, scNum l s5 0 = (k, s) := ⟨_, _, rfl⟩
  obtain ⟨n3, s7, h7⟩ : ∃ k s, scNum l s6 0 = (k, s) := ⟨_, _, rfl⟩
  obtain ⟨n4, s8, h8⟩ : ∃ k s, scNum l s7 0 = (k, s) := ⟨_, _, rfl⟩
  obtain ⟨n5, s9, h9⟩ : ∃ k s, scNum l s8 0 = (k, s) := ⟨_, _, rfl⟩
  obtain ⟨n6, s10, h10⟩ : ∃ k s, scNum l s9 0 = (k, s) := ⟨_, _, rfl⟩
  obtain ⟨n, s11, h11⟩ : ∃ k s, scNum l s10 0 = (k, s) := ⟨_, _, rfl⟩
  have HR := Aside0.mk hr
  have HK := Aside0.mk hok
  replace h1 := Aside0.mk h1
  replace h2 := Aside0.mk h2
  replace h3 := Aside0.mk h3
  replace h4 := Aside0.mk h4
  replace h5 := Aside0.mk h5
  replace h6 := Aside0.mk h6
  replace h7 := Aside0.mk h7
  replace h8 := Aside0.mk h8
  replace h9 := Aside0.mk h9
  replace h10 := Aside0.mk h10
  replace h11 := Aside0.mk h11
  clear hr hok
  have HC1 := Aside0.mk (C30.start (w0 := w0) (A := A) (n := l.length) (c := c))
  obtain ⟨b, hb⟩ : ∃ b, (o == 1) = b := ⟨_, rfl⟩
  go_enter Try.func30, Try.ntmps30
  go_wp2_with fail
  refine (one_any w0 _ (w0.heap.size + 1) A c l (.ok 0) HR.out hc HC1.out.st HC1.out.below HC1.out.g0 HK.out 1 7 k s1 h1.out).mono ?_
  rintro e w1 ⟨B1, K1, rfl, I1⟩
  have HD := Aside0.mk (HC1.out.call B1 K1 I1)
  clear B1 K1 I1 HC1
  have q := HD.out.m.cell 0 (.int .i64 0) rfl
  have fm := HD.out.m.frozen
  have HC1 := Aside0.mk (show C30 w0 _ (w0.heap.size + 1) A l.length c s1 w0.heap.size Z40 (w0.heap.size + 1 + 1) (M40 k 0 0 0 0 0 0 0 0 false (.slice none 0 0) (.slice none 0 0)) from HD.out.setM 0 (.int .i64 k))
  clear HD
  go_wp2_with fail
  refine (one_any w0 _ (w0.heap.size + 1) A c l s1 HR.out hc HC1.out.st HC1.out.below HC1.out.g0 HK.out 1 9 f s2 h2.out).mono ?_
  rintro e w2 ⟨B1, K1, rfl, I1⟩
  have HD := Aside0.mk (HC1.out.call B1 K1 I1)
  clear B1 K1 I1 HC1 q fm
  have q := HD.out.m.cell 1 (.int .i64 0) rfl
  have fm := HD.out.m.frozen
  have HC1 := Aside0.mk (show C30 w0 _ (w0.heap.size + 1) A l.length c s2 w0.heap.size Z40 (w0.heap.size + 1 + 1) (M40 k f 0 0 0 0 0 0 0 false (.slice none 0 0) (.slice none 0 0)) from HD.out.setM 1 (.int .i64 f))
  clear HD
  go_wp2_with fail
  refine (one_any w0 _ (w0.heap.size + 1) A c l s2 HR.out hc HC1.out.st HC1.out.below HC1.out.g0 HK.out 1 9 t s3 h3.out).mono ?_
  rintro e w3 ⟨B1, K1, rfl, I1⟩
  have HD := Aside0.mk (HC1.out.call B1 K1 I1)
  clear B1 K1 I1 HC1 q fm
  have q := HD.out.m.cell 2 (.int .i64 0) rfl
  have fm := HD.out.m.frozen
  have HC1 := Aside0.mk (show C30 w0 _ (w0.heap.size + 1) A l.length c s3 w0.heap.size Z40 (w0.heap.size + 1 + 1) (M40 k f t 0 0 0 0 0 0 false (.slice none 0 0) (.slice none 0 0)) from HD.out.setM 2 (.int .i64 t))
  clear HD
  go_wp2_with fail
  refine (one_any w0 _ (w0.heap.size + 1) A c l s3 HR.out hc HC1.out.st HC1.out.below HC1.out.g0 HK.out 0 1 o s4 h4.out).mono ?_
  rintro e w4 ⟨B1, K1, rfl, I1⟩
  have HD := Aside0.mk (HC1.out.call B1 K1 I1)
  clear B1 K1 I1 HC1 q fm
  have q := HD.out.m.cell 9 (.bool false) rfl
  have fm := HD.out.m.frozen
  have HC1 := Aside0.mk (show C30 w0 _ (w0.heap.size + 1) A l.length c s4 w0.heap.size Z40 (w0.heap.size + 1 + 1) (M40 k f t 0 0 0 0 0 0 b (.slice none 0 0) (.slice none 0 0)) from HD.out.setM 9 (.bool b))
  clear HD
  go_wp2_with fail
  refine (num_any w0 _ (w0.heap.size + 1) A c l s4 HR.out hc HC1.out.st HC1.out.below HC1.out.g0 HK.out 0 n1 s5 h5.out).mono ?_
  rintro e w5 ⟨B1, K1, rfl, I1⟩
  have HD := Aside0.mk (HC1.out.call B1 K1 I1)
  clear B1 K1 I1 HC1 q fm
  have q := HD.out.m.cell 3 (.int .i64 0) rfl
  have fm := HD.out.m.frozen
  have HC1 := Aside0.mk (show C30 w0 _ (w0.heap.size + 1) A l.length c s5 w0.heap.size Z40 (w0.heap.size + 1 + 1) (M40 k f t n1 0 0 0 0 0 b (.slice none 0 0) (.slice none 0 0)) from HD.out.setM 3 (.int .i64 n1))
  clear HD
  go_wp2_with fail
  refine (num_any w0 _ (w0.heap.size + 1) A c l s5 HR.out hc HC1.out.st HC1.out.below HC1.out.g0 HK.out 0 n2 s6 h6.out).mono ?_
  rintro e w6 ⟨B1, K1, rfl, I1⟩
  have HD := Aside0.mk (HC1.out.call B1 K1 I1)
  clear B1 K1 I1 HC1 q fm
  have q := HD.out.m.cell 4 (.int .i64 0) rfl
  have fm := HD.out.m.frozen
  have HC1 := Aside0.mk (show C30 w0 _ (w0.heap.size + 1) A l.length c s6 w0.heap.size Z40 (w0.heap.size + 1 + 1) (M40 k f t n1 n2 0 0 0 0 b (.slice none 0 0) (.slice none 0 0)) from HD.out.setM 4 (.int .i64 n2))
  clear HD
  go_wp2_with fail
  refine (num_any w0 _ (w0.heap.size + 1) A c l s6 HR.out hc HC1.out.st HC1.out.below HC1.out.g0 HK.out 0 n3 s7 h7.out).mono ?_
  rintro e w7 ⟨B1, K1, rfl, I1⟩
  have HD := Aside0.mk (HC1.out.call B1 K1 I1)
  clear B1 K1 I1 HC1 q fm
  have q := HD.out.m.cell 5 (.int .i64 0) rfl
  have fm := HD.out.m.frozen
  have HC1 := Aside0.mk (show C30 w0 _ (w0.heap.size + 1) A l.length c s7 w0.heap.size Z40 (w0.heap.size + 1 + 1) (M40 k f t n1 n2 n3 0 0 0 b (.slice none 0 0) (.slice none 0 0)) from HD.out.setM 5 (.int .i64 n3))
  clear HD
  go_wp2_with fail
  refine (num_any w0 _ (w0.heap.size + 1) A c l s7 HR.out hc HC1.out.st HC1.out.below HC1.out.g0 HK.out 0 n4 s8 h8.out).mono ?_
  rintro e w8 ⟨B1, K1, rfl, I1⟩
  have HD := Aside0.mk (HC1.out.call B1 K1 I1)
  clear B1 K1 I1 HC1 q fm
  have q := HD.out.m.cell 6 (.int .i64 0) rfl
  have fm := HD.out.m.frozen
  have HC1 := Aside0.mk (show C30 w0 _ (w0.heap.size + 1) A l.length c s8 w0.heap.size Z40 (w0.heap.size + 1 + 1) (M40 k f t n1 n2 n3 n4 0 0 b (.slice none 0 0) (.slice none 0 0)) from HD.out.setM 6 (.int .i64 n4))
  clear HD
  go_wp2_with fail
  refine (num_any w0 _ (w0.heap.size + 1) A c l s8 HR.out hc HC1.out.st HC1.out.below HC1.out.g0 HK.out 0 n5 s9 h9.out).mono ?_
  rintro e w9 ⟨B1, K1, rfl, I1⟩
  have HD := Aside0.mk (HC1.out.call B1 K1 I1)
  clear B1 K1 I1 HC1 q fm
  have q := HD.out.m.cell 7 (.int .i64 0) rfl
  have fm := HD.out.m.frozen
  have HC1 := Aside0.mk (show C30 w0 _ (w0.heap.size + 1) A l.length c s9 w0.heap.size Z40 (w0.heap.size + 1 + 1) (M40 k f t n1 n2 n3 n4 n5 0 b (.slice none 0 0) (.slice none 0 0)) from HD.out.setM 7 (.int .i64 n5))
  clear HD
  go_wp2_with fail
  refine (num_any w0 _ (w0.heap.size + 1) A c l s9 HR.out hc HC1.out.st HC1.out.below HC1.out.g0 HK.out 0 n6 s10 h10.out).mono ?_
  rintro e w10 ⟨B1, K1, rfl, I1⟩
  have HD := Aside0.mk (HC1.out.call B1 K1 I1)
  clear B1 K1 I1 HC1 q fm
  have q := HD.out.m.cell 8 (.int .i64 0) rfl
  have fm := HD.out.m.frozen
  have HC1 := Aside0.mk (show C30 w0 _ (w0.heap.size + 1) A l.length c s10 w0.heap.size Z40 (w0.heap.size + 1 + 1) (M40 k f t n1 n2 n3 n4 n5 n6 b (.slice none 0 0) (.slice none 0 0)) from HD.out.setM 8 (.int .i64 n6))
  clear HD
  go_wp2_with fail
  refine (num_any w0 _ (w0.heap.size + 1) A c l s10 HR.out hc HC1.out.st HC1.out.below HC1.out.g0 HK.out 0 n s11 h11.out).mono ?_
  rintro e w11 ⟨B1, K1, rfl, I1⟩
  have HC2 := Aside0.mk (show C30 w0 w11 (w0.heap.size + 1) A l.length c s11 w0.heap.size Z40 (w0.heap.size + 1 + 1) (M40 k f t n1 n2 n3 n4 n5 n6 b (.slice none 0 0) (.slice none 0 0)) from HC1.out.call B1 K1 I1)
  have hnb := scNum_bd HK.out h11.out
  obtain ⟨hn0, hn1⟩ := hnb
  clear B1 K1 I1 HC1 q fm
  go_upto_region 14 with (fail)
  go_cut [53] (fun v53 wc => ∃ y : Bool, v53 = .bool y ∧ Aside0 (y = limB n s11) ∧ Aside0 (C30 w0 wc (w0.heap.size + 1) A l.length c s11 w0.heap.size Z40 (w0.heap.size + 1 + 1) (M40 k f t n1 n2 n3 n4 n5 n6 b (.slice none 0 0) (.slice none 0 0))))
  case first =>
    cases s11 with
    | error y =>
      obtain ⟨hy, a, hsc⟩ := HC2.out.st
      have hy1 : (y == 0) = false := by simpa using hy
      have hy2 : (y != 0) = true := by simpa using hy
      have c2 := hsc.cell2
      clear hsc hy
      go_wp2_with fail
      go_meet
      case rel => exact ⟨false, rfl, ⟨rfl⟩, HC2⟩
    | ok a =>
      have hsc : IsSc w11 (w0.heap.size + 1) A l.length c a 0 := HC2.out.st
      have c2 := hsc.cell2
      clear hsc
      go_wp2_with fail
      go_meet
      case rel => exact ⟨_, rfl, ⟨rfl⟩, HC2⟩
  case rest =>
  obtain ⟨y, rfl, HY, HC3⟩ := hcut
  clear HC2
  go_upto_if 53 with (fail)
  go_cut [] (fun wc => Aside0 (C30 w0 wc (w0.heap.size + 1) A l.length c (scLim n s11) w0.heap.size Z40 (w0.heap.size + 1 + 1) (M40 k f t n1 n2 n3 n4 n5 n6 b (.slice none 0 0) (.slice none 0 0))))
  case first =>
    cases y with
    | false =>
      go_wp2_with fail
      go_meet
      case rel => exact ⟨by rw [← lim_false HY.out.symm]; exact HC3.out⟩
    | true =>
      obtain ⟨a, rfl, h8⟩ := lim_true HY.out.symm
      have H8 := Aside0.mk h8
      clear h8
      go_wp2_with fail
      refine (fail_any w0 _ (w0.heap.size + 1) A l.length c a 6 HC3.out.st HC3.out.below HC3.out.g0 (by decide)).mono ?_
      rintro e w12 ⟨B1, K1, rfl, I1⟩
      have HD := Aside0.mk (HC3.out.call B1 K1 I1)
      clear B1 K1 I1
      go_wp2_with fail
      go_meet
      case rel => exact ⟨by rw [scLim, if_pos H8.out]; exact HD.out⟩
  case rest =>
  clear HC3 HY
  have HC4 := hcut
  clear hcut
  obtain ⟨esR, sR, hR⟩ : ∃ es s, scEnts l n.toNat [] (scLim n s11) = (es, s) := ⟨_, _, rfl⟩
  have HES := Aside0.mk hR
  clear hR
  go_step
  go_step
  go_cut [7] (fun v7 wc => ∃ ve, Aside0 (C30 w0 wc (w0.heap.size + 1) A l.length c sR w0.heap.size Z40 (w0.heap.size + 1 + 1) (M40 k f t n1 n2 n3 n4 n5 n6 b ve (.slice none 0 0))) ∧ Aside0 (Kd.S k34 34 wc w0.heap.size (fun _ => True) ve esR))
  case first =>
    go_wp2_with fail
    go_loopg [7] n.toNat (fun kq v7 w' => ∃ (i : Int) (ve : Value) (es : List S34) (st : Except Int Int), v7 = .int .i64 i ∧ 0 ≤ i ∧ i + kq = n ∧ (es.length : Int) = i ∧ Aside0 (scEnts l kq es st = (esR, sR)) ∧ Aside0 (C30 w0 w' (w0.heap.size + 1) A l.length c st w0.heap.size Z40 (w0.heap.size + 1 + 1) (M40 k f t n1 n2 n3 n4 n5 n6 b ve (.slice none 0 0))) ∧ Aside0 (Kd.S k34 34 w' w0.heap.size (fun _ => True) ve es))
    case atStart => exact ⟨0, .slice none 0 0, [], _, rfl, by omega, by omega, rfl, HES, HC4, ⟨Kd.S_nil _ _ _ _ _⟩⟩
    case round =>
      obtain ⟨i, ve, es, st, rfl, i0, i1, hes, HS5, HC5, HE5⟩ := hrel
      clear HC4
      by_cases hi : i < n
      · have hb7 : decide (i < n) = true := by simpa using hi
        obtain ⟨j, hj⟩ : ∃ j, gk = j + 1 := ⟨gk - 1, by omega⟩
        have HJ := Aside0.mk hj
        clear hj
        have hC := HC5.out
        cases st with
        | error y =>
          obtain ⟨hy, a, hsc⟩ := hC.st
          have hy1 : (y == 0) = false := by simpa using hy
          have hy2 : (y != 0) = true := by simpa using hy
          have c2 := hsc.cell2
          clear hsc hy hC
          go_wp2_with fail
          go_meet
          case rel =>
            have h0 := HS5.out
            rw [HJ.out] at h0
            obtain ⟨rfl, rfl⟩ : es = esR ∧ .error y = sR := by simpa [scEnts] using h0
            exact ⟨ve, HC5, HE5⟩
        | ok a =>
          have hsc : IsSc wr (w0.heap.size + 1) A l.length c a 0 := hC.st
          have c2 := hsc.cell2
          have HG := Aside0.mk hsc.1
          have q10 := hC.m.cell 10 ve rfl
          have f10 := hC.m.frozen
          obtain ⟨x, sx, hx⟩ : ∃ x s, scEntry l (.ok a) = (x, s) := ⟨_, _, rfl⟩
          have HX := Aside0.mk hx
          have HC6 := Aside0.mk (hC.step (W1 := wr.drew) (below_drew1 hC.below) rfl rfl rfl)
          have HE6 := Aside0.mk (Kd.S_drew (Kd.S_types HE5.out hsc.1 (by decide)))
          have hesl : (es.length + 1) * 48 ≤ 140737488355328 := by omega
          clear hsc hC hx
          go_wp2_with fail
          go_region_law (first
            | ((refine Kd.S_append_step k34 (w0 := w0) w0.heap.size (by rfl) (.tmp 69) (.tmp 72) 38 34 (.agg #[.int .i64 0, .int .i64 0, .int .i64 0, .slice none 0 0]) 48 (by rfl) Try.underlying38 info34 (by rfl) (by decide) (by decide) ve es (toS x) [.int .i64 x.1, .int .i64 x.2.1, .int .i64 x.2.2.1, .slice Ad x.2.2.2.length cd] (fun _ => True) (fun k => wr.heap.size ≤ k) (by rfl) (by rfl) (k34_mkM _ _ _ (toS x) (Kd.R_lower (Kd.R_mono (Kd.R_bound HR1.out) (fun k hk => hk.2.1)) HC6.out.below.size)) (fun k hk => ⟨trivial, Kd.S_away_ge HE6.out hk⟩) (fun _ _ => trivial) HE7.out HC7.out.below HC7.out.below.size hesl ?_; intro v3 w3 S3 B3 G3 at3; have HC8 := Aside0.mk (HC7.out.grown B3 G3 HE7.out); have d2 := HC8.out.m.cell 10 ve rfl; have f2 := HC8.out.m.frozen; obtain ⟨es', he'⟩ : ∃ es', es ++ [toS x] = es' := ⟨_, rfl⟩; rw [he'] at S3; have HES' := Aside0.mk he'; obtain ⟨A3, c3, rfl⟩ := Kd.S_slice S3; have HS3 := Aside0.mk S3; clear S3 B3 G3 at3 he' d1 e1))
            | (go_simp; go_at_call 50; refine (scentry_any w0 _ (w0.heap.size + 1) A c l (.ok a) HR.out hc HC6.out.st HC6.out.below HC6.out.g0 HK.out x sx HX.out).mono ?_; rintro e w1 ⟨B1, K1, v, rfl, R1, I1⟩; obtain ⟨Ad, cd, rfl⟩ := Kd.R_slice R1; have HC7 := Aside0.mk (HC6.out.call B1 K1 I1); have d1 := HC7.out.m.cell 10 ve rfl; have e1 : (w1.alloc (.cells #[.int .i64 x.1, .int .i64 x.2.1, .int .i64 x.2.2.1, .slice Ad x.2.2.2.length cd] 34 (0, 0))).cell? ⟨w0.heap.size + 1 + 1, 10, none⟩ = some ve := ((below_alloc (Below.refl w1.heap.size w1) _).cell (p := ⟨w0.heap.size + 1 + 1, 10, none⟩) HC7.out.m.lt).trans d1; have HR1 := Aside0.mk R1; have HE7 := Aside0.mk (show Kd.S k34 34 w1 w0.heap.size (fun k => True ∧ ¬ wr.heap.size ≤ k) ve es from Kd.S_mono (Kd.S_keep (Kd.S_bound HE6.out) K1 (fun k hk => hk.1.2)) (fun k hk => ⟨trivial, Nat.not_le_of_lt hk.2.2.1⟩)); clear B1 K1 R1 I1; go_simp))
          all_goals
            have HC9 := Aside0.mk (show C30 w0 _ (w0.heap.size + 1) A l.length c sx w0.heap.size Z40 (w0.heap.size + 1 + 1) (M40 k f t n1 n2 n3 n4 n5 n6 b (.slice A3 es'.length c3) (.slice none 0 0)) from HC8.out.setM 10 (.slice A3 es'.length c3))
            have HE9 := Aside0.mk (Kd.S_set HS3.out HC8.out.m (by decide) 10 (.slice A3 es'.length c3))
            clear d2 f2 HC8 HS3 HC7 HE7 HR1 HC6 HE6 HG q10 f10 c2
            go_wp2_with fail
            go_roundg j
            case measure => have := HJ.out; omega
            case rel =>
              have h0 := HS5.out
              rw [HJ.out, scEnts, HX.out] at h0
              refine ⟨i + 1, .slice A3 es'.length c3, es', sx, rfl, by omega, by have := HJ.out; omega, ?_, ⟨by rw [← HES'.out]; exact h0⟩, HC9, HE9⟩
              rw [← HES'.out, List.length_append]; simp; omega
      · have hb7 : decide (i < n) = false := by simpa using hi
        have hz : gk = 0 := by omega
        go_wp2_with fail
        go_meet
        case rel =>
          have h0 := HS5.out
          rw [hz] at h0
          obtain ⟨rfl, rfl⟩ : es = esR ∧ st = sR := by simpa [scEnts] using h0
          exact ⟨ve, HC5, HE5⟩
  case rest =>
  obtain ⟨ve, HC5, HE5⟩ := hcut
  clear HC4
  obtain ⟨d, sD, hd⟩ : ∃ d s, scRow l sR 32768 = (d, s) := ⟨_, _, rfl⟩
  obtain ⟨sE, hE⟩ : ∃ s, scEnd l sD = s := ⟨_, rfl⟩
  have HD := Aside0.mk hd
  have HE := Aside0.mk hE
  clear hd hE
  have hr0 : r = msgOf k f t n1 n2 n3 n4 n5 n6 o esR d sE := by
    rw [← HRES.out]; exact refMsg_eq h1.out h2.out h3.out h4.out h5.out h6.out h7.out h8.out h9.out h10.out h11.out HES.out HD.out HE.out
  have HR0 := Aside0.mk hr0
  clear hr0
  go_wp2_with fail
  refine (row_any w0 _ (w0.heap.size + 1) A c l sR HR.out hc HC5.out.st HC5.out.below HC5.out.g0 HK.out 32768 (by decide) d sD HD.out).mono ?_
  rintro e w12 ⟨B1, K1, v, rfl, R1, I1⟩
  have HC6 := Aside0.mk (HC5.out.call B1 K1 I1)
  have HE6 := Aside0.mk (show Kd.S k34 34 w12 w0.heap.size (fun k => k < wc.heap.size) ve esR from by
    obtain ⟨cells, hb⟩ := HC5.out.st.blk
    exact Kd.S_mono (Kd.S_keep (Kd.S_bound (Kd.S_types HE5.out hb (by decide))) K1 (fun k hk => hk.1.2)) (fun k hk => hk.2.2.1))
  have HR6 := Aside0.mk (Kd.R_lower (Kd.R_mono (ok' := fun k => wc.heap.size ≤ k) (Kd.R_bound R1) (fun k hk => hk.2.1)) HC5.out.below.size)
  obtain ⟨Ad, cd, rfl⟩ := Kd.R_slice R1
  obtain ⟨Ae, ce, rfl⟩ := Kd.S_slice HE6.out
  have q := HC6.out.m.cell 11 (.slice none 0 0) rfl
  have fm := HC6.out.m.frozen
  have HC7 := Aside0.mk (show C30 w0 _ (w0.heap.size + 1) A l.length c sD w0.heap.size Z40 (w0.heap.size + 1 + 1) (M40 k f t n1 n2 n3 n4 n5 n6 b (.slice Ae esR.length ce) (.slice Ad d.length cd)) from HC6.out.setM 11 (.slice Ad d.length cd))
  have HE7 := Aside0.mk (Kd.S_set HE6.out HC6.out.m (by decide) 11 (.slice Ad d.length cd))
  have HR7 := Aside0.mk (Kd.R_set HR6.out HC6.out.m (by decide) 11 (.slice Ad d.length cd))
  clear B1 K1 R1 I1 HC5 HE5 HE6 HR6
  go_wp2_with fail
  refine (scend_any w0 _ (w0.heap.size + 1) A c l sD HC7.out.st HC7.out.below HC7.out.g0 sE HE.out).mono ?_
  rintro e w13 ⟨B1, K1, rfl, I1⟩
  have HC8 := Aside0.mk (HC7.out.call B1 K1 I1)
  obtain ⟨cells, hb⟩ := HC7.out.st.blk
  have HE8 := Aside0.mk (Kd.S_mono (ok' := fun k => k < wc.heap.size) (Kd.S_keep (Kd.S_types HE7.out hb (by decide)) K1 (fun k hk => hk.2)) (fun k hk => hk.1))
  have HR8 := Aside0.mk (Kd.R_mono (ok' := fun k => wc.heap.size ≤ k) (Kd.R_keep (Kd.R_types HR7.out hb (by decide)) K1 (fun k hk => hk.2)) (fun k hk => hk.1))
  clear B1 K1 I1 HC7 HE7 HR7 HC6 q fm hb
  have x0 := HC8.out.x.cell 0 (.int .i64 0) rfl
  have x1 := HC8.out.x.cell 1 (.int .i64 0) rfl
  have x2 := HC8.out.x.cell 2 (.int .i64 0) rfl
  have x3 := HC8.out.x.cell 3 (.int .i64 0) rfl
  have x4 := HC8.out.x.cell 4 (.int .i64 0) rfl
  have x5 := HC8.out.x.cell 5 (.int .i64 0) rfl
  have x6 := HC8.out.x.cell 6 (.int .i64 0) rfl
  have x7 := HC8.out.x.cell 7 (.int .i64 0) rfl
  have x8 := HC8.out.x.cell 8 (.int .i64 0) rfl
  have x9 := HC8.out.x.cell 9 (.bool false) rfl
  have x10 := HC8.out.x.cell 10 (.slice none 0 0) rfl
  have x11 := HC8.out.x.cell 11 (.slice none 0 0) rfl
  have fx := HC8.out.x.frozen
  cases sE with
  | error y =>
    obtain ⟨hy, a, hsc⟩ := HC8.out.st
    have hy1 : (y == 0) = false := by simpa using hy
    have hy2 : (y != 0) = true := by simpa using hy
    have c2 := hsc.cell2
    clear hsc hy
    have hx : r = msgZ y := HR0.out
    subst hx
    have HC9 := Aside0.mk (HC8.out.step (W1 := w13.drew) (below_drew1 HC8.out.below) rfl rfl rfl)
    have HF := (HC8.out.put40 (.int .i64 0) (.int .i64 0) (.int .i64 0) (.int .i64 0) (.int .i64 0) (.int .i64 0) (.int .i64 0) (.int .i64 0) (.int .i64 0) (.bool false) (.slice none 0 0) (.slice none 0 0)).drewN 1
    have HF := Aside0.mk HF
    clear HR0 HE8 HR8 HRES
    go_wp2_with fail
    go_region_held3 (fun w' => w'.cell? ⟨w0.heap.size + 1, 2, none⟩ = some (.int .i64 y)) (go_keep) (fail)
    all_goals
      go_wp2
      exact bodyPost_ret (res30 HF.out.x rfl rfl) rfl ⟨_, _, rfl, Kd.S_nil _ _ _ _ _, Kd.R_nil _ _ _ _ _, HF.out.below⟩
  | ok a =>
    have hsc : IsSc w13 (w0.heap.size + 1) A l.length c a 0 := HC8.out.st
    have c2 := hsc.cell2
    clear hsc
    have q0 := HC8.out.m.cell 0 (.int .i64 k) rfl
    have q1 := HC8.out.m.cell 1 (.int .i64 f) rfl
    have q2 := HC8.out.m.cell 2 (.int .i64 t) rfl
    have q3 := HC8.out.m.cell 3 (.int .i64 n1) rfl
    have q4 := HC8.out.m.cell 4 (.int .i64 n2) rfl
    have q5 := HC8.out.m.cell 5 (.int .i64 n3) rfl
    have q6 := HC8.out.m.cell 6 (.int .i64 n4) rfl
    have q7 := HC8.out.m.cell 7 (.int .i64 n5) rfl
    have q8 := HC8.out.m.cell 8 (.int .i64 n6) rfl
    have q9 := HC8.out.m.cell 9 (.bool b) rfl
    have q10 := HC8.out.m.cell 10 (.slice Ae esR.length ce) rfl
    have q11 := HC8.out.m.cell 11 (.slice Ad d.length cd) rfl
    go_wp2
    have hb' : (o == 1) = b := hb
    have hx : r = (k, f, t, n1, n2, n3, n4, n5, n6, b, esR, d, 0) := by rw [← hb']; exact HR0.out
    subst hx
    have HF := HC8.out.put40 (.int .i64 k) (.int .i64 f) (.int .i64 t) (.int .i64 n1) (.int .i64 n2) (.int .i64 n3) (.int .i64 n4) (.int .i64 n5) (.int .i64 n6) (.bool b) (.slice Ae esR.length ce) (.slice Ad d.length cd)
    have hbX := HC8.out.x
    refine bodyPost_ret (res30 HF.x rfl rfl) rfl ⟨_, _, rfl, ?_, ?_, HF.below⟩
    · refine Kd.S_mono (Kd.S_move (Kd.S_types HE8.out hbX (by decide)) (fun k_ hk => put40_heap _ _ _ _ _ _ _ _ _ _ _ _ _ _ k_ hk.2)) (fun k_ hk he => ?_)
      have h1 := hk.1
      have h2 := HR8.out.1 k_ he.symm
      omega
    · exact Kd.R_mono (Kd.R_move (Kd.R_types HR8.out hbX (by decide)) (fun k_ hk => put40_heap _ _ _ _ _ _ _ _ _ _ _ _ _ _ k_ hk.2)) (fun _ _ => trivial)
end Go.Proofs.Ytlbioffpcoikaaa.PW
