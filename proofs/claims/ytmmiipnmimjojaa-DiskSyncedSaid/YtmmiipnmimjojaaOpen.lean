/- What an argument that can be read holds, kind by kind. -/
import Derived.Test.YtmmiipnmimjojaaV2
import Derived.Test.YtmmiipnmimjojaaRows
import Derived.Deep.Slices
import Derived.SizedLaws
import Derived.ProofKit
namespace Go.Proofs.Ytmmiipnmimjojaa.OpenK
open Go.RowKit Go.Deep Go.ChangeShapes Go.WideShapes Go.Proofs.YtmmiipnmimjojaaW.PrintWords

/-- Whatever can be read at this type, and is no larger than the form lets in, is told by this kind. 'small': with the datum's bulk, what its lengths are at most. -/
structure Opens {α : Type} (P : Program) (t : TypeId) (d : Kd α) (good : α → Prop) (small : Nat → α → Prop) : Prop where
  mono : ∀ (B B' : Nat) (a : α), B ≤ B' → small B a → small B' a
  open_ : ∀ {H : Type} {enc : TypeId × Value → H} {w : World} {base : Nat} {spare : Nat → Bool} {held : Bool} {n : Nat} {cs : List Value} {x : DataW H × List MemPlace},
    DataW.trod enc P w base spare held n t cs = some x → (∀ m ∈ x.1.weights P t, m ≤ reachBytes) → ∃ a, d.K w a cs ∧ good a ∧ small (Rows.uptoBulk x.1) a

theorem one_le {H : Type} (d : DataW H) : 1 ≤ Rows.uptoBulk d := by
  cases d with
  | lit l => cases l <;> simp [Rows.uptoBulk]
  | nil => simp [Rows.uptoBulk]
  | ptr d => simp [Rows.uptoBulk]
  | slice elems spare => simp [Rows.uptoBulk]
  | agg parts => simp [Rows.uptoBulk]
  | iface t d => simp [Rows.uptoBulk]
  | map entries => simp [Rows.uptoBulk]
  | held h => simp [Rows.uptoBulk]
theorem part_le {H : Type} {d : DataW H} {l : List (DataW H)} (h : d ∈ l) : Rows.uptoBulk d ≤ Rows.uptoBulkAll l := by
  induction l with
  | nil => cases h
  | cons x r ih =>
    simp only [Rows.uptoBulkAll]
    rcases List.mem_cons.1 h with rfl | e
    · omega
    · have := ih e; omega
theorem length_le {H : Type} (l : List (DataW H)) : l.length ≤ Rows.uptoBulkAll l := by
  induction l with
  | nil => simp [Rows.uptoBulkAll]
  | cons x r ih => have := one_le x; simp only [Rows.uptoBulkAll, List.length_cons]; omega

theorem opens_int {P : Program} {t : TypeId} {k : IntKind} (ht : P.underlying t = some (.int k)) : Opens P t (Kd.int k) (fun n => (Lit.int k n).wf = true) (fun _ _ => True) where
  mono := fun _ _ _ _ h => h
  open_ := by
    intro H enc w base spare held n cs x h _
    obtain ⟨z, rfl, _, hw⟩ := DataW.trod_int ht h
    exact ⟨z, rfl, hw, trivial⟩
theorem opens_bool {P : Program} {t : TypeId} (ht : P.underlying t = some .bool) : Opens P t Kd.bool (fun _ => True) (fun _ _ => True) where
  mono := fun _ _ _ _ h => h
  open_ := by
    intro H enc w base spare held n cs x h _
    obtain ⟨z, rfl, _⟩ := DataW.trod_bool ht h
    exact ⟨z, rfl, trivial, trivial⟩
theorem opens_string {P : Program} {t : TypeId} (ht : P.underlying t = some .string) : Opens P t Kd.string (fun s => s.size ≤ reachBytes ∧ s.size ≤ maxLen) (fun B s => s.size ≤ B) where
  mono := fun _ _ _ h h' => Nat.le_trans h' h
  open_ := by
    intro H enc w base spare held n cs x h hs
    obtain ⟨z, rfl, rfl, hm⟩ := DataW.trod_string ht h
    have e : z.data.toList.length = z.size := by rw [Array.length_toList]; rfl
    refine ⟨z, rfl, ⟨?_, hm⟩, ?_⟩
    · have := hs z.data.toList.length (by simp [DataW.weights])
      simpa using this
    · simp only [Rows.uptoBulk]; omega
theorem weights_all {H : Type} {P : Program} {e : TypeId} : ∀ {l : List (DataW H)} {d : DataW H}, d ∈ l → ∀ m ∈ d.weights P e, m ∈ DataW.weightsAll P e l
  | [], _, h, _, _ => by cases h
  | d0 :: l, d, h, m, hm => by
    simp only [DataW.weightsAll, List.mem_append]
    rcases List.mem_cons.1 h with rfl | h
    · exact .inl hm
    · exact .inr (weights_all h m hm)
theorem opens_slice {α : Type} {P : Program} {t e : TypeId} {d : Kd α} {g : α → Prop} {s : Nat → α → Prop} {B : Nat} (ht : P.underlying t = some (.slice e)) (hE : Opens P e d g s) (hc : P.cellsOf e = d.sz) (hB : P.bytesOf e = B) :
    Opens P t (Kd.slice e d) (fun xs => xs.length * B ≤ reachBytes ∧ xs.length ≤ maxLen ∧ ∀ x ∈ xs, g x) (fun b xs => xs.length ≤ b ∧ ∀ x ∈ xs, s b x) := by
  refine ⟨fun b b' xs hb h => ⟨Nat.le_trans h.1 hb, fun x hx => hE.mono _ _ _ hb (h.2 x hx)⟩, ?_⟩
  intro H enc w base spare held n cs x h hs
  rcases open_slice ht h with ⟨rfl, rfl⟩ | ⟨a, len, cap, m, n', D, Pl, rfl, hb, hl, hm, hmm, rfl, hi⟩
  · exact ⟨[], ⟨none, 0, rfl, Nat.le_refl _, Kd.C_nil d w⟩, ⟨by simp, by simp, by simp⟩, by simp, by simp⟩
  · have hle : len ≤ m := by rw [hmm]; split <;> omega
    obtain ⟨bk, hbk⟩ : ∃ bk, bk = Rows.uptoBulk (DataW.slice ((List.range len).map D) ((List.range (m - len)).map fun j => D (len + j))) := ⟨_, rfl⟩
    have hblen : len ≤ bk := by
      have := length_le ((List.range len).map D)
      simp only [List.length_map, List.length_range] at this
      rw [hbk]; simp only [Rows.uptoBulk]; omega
    have hel : ∀ i, i < len → ∃ a', ∃ c, w.cells? base (a.add (i * P.cellsOf e)) (P.cellsOf e) = some c ∧ d.K w a' c ∧ g a' ∧ s bk a' := by
      intro i hil
      obtain ⟨c, h1, h2⟩ := hi i (by omega)
      obtain ⟨a', h3, h4, h5⟩ := hE.open_ h2 (fun q hq => hs q (by
        simp only [DataW.weights, ht, List.mem_cons, List.mem_append]
        exact .inr (.inl (weights_all (List.mem_map.2 ⟨i, by simpa using hil, rfl⟩) q hq))))
      refine ⟨a', c, h1, h3, h4, hE.mono _ _ _ ?_ h5⟩
      have := part_le (l := (List.range len).map D) (d := D i) (List.mem_map.2 ⟨i, by simpa using hil, rfl⟩)
      rw [hbk]; simp only [Rows.uptoBulk]; omega
    have hex : ∃ xs : List α, xs.length = len ∧ ∀ (i : Nat) (y : α), xs[i]? = some y → ∃ c, w.cells? base (a.add (i * P.cellsOf e)) (P.cellsOf e) = some c ∧ d.K w y c ∧ g y ∧ s bk y := by
      clear hs hi hmm hm hl hle h hbk hblen
      induction len with
      | zero => exact ⟨[], rfl, fun i y hy => by simp at hy⟩
      | succ k ih =>
        obtain ⟨xs, h1, h2⟩ := ih (fun i hik => hel i (by omega))
        obtain ⟨y, c, h3, h4, h5⟩ := hel k (by omega)
        refine ⟨xs ++ [y], by simp [h1], fun i z hz => ?_⟩
        rcases Nat.lt_or_ge i xs.length with hix | hix
        · rw [List.getElem?_append_left hix] at hz
          exact h2 i z hz
        · rw [List.getElem?_append_right hix] at hz
          have hik : i = k := by
            rcases Nat.lt_or_ge (i - xs.length) 1 with h6 | h6
            · omega
            · rw [List.getElem?_eq_none (by simpa using h6)] at hz; cases hz
          subst hik
          rw [h1, Nat.sub_self] at hz
          simp at hz
          subst hz
          exact ⟨c, h3, h4, h5⟩
    obtain ⟨xs, hxl, hx⟩ := hex
    have hw := hs ((((List.range len).map D).length + ((List.range (m - len)).map fun j => D (len + j)).length) * P.bytesOf e) (by simp [DataW.weights, ht])
    refine ⟨xs, ⟨some a, cap, by rw [hxl], by omega, rfl, by rw [hxl]; exact Nat.le_trans hl (Nat.le_trans hm (by decide)), fun _ => ⟨a, rfl, fun j y hy => ?_⟩⟩, ⟨?_, by omega, fun y hy => ?_⟩, by show xs.length ≤ _; rw [← hbk]; omega, fun y hy => ?_⟩
    · obtain ⟨c, h1, h2, _⟩ := hx j y hy
      obtain ⟨_, hcl, hat⟩ := World.cells?_some h1
      refine ⟨c, by rw [hcl, hc], h2, fun i u hu => ?_⟩
      have hic : i < P.cellsOf e := by rw [← hcl]; exact (List.getElem?_eq_some_iff.1 hu).1
      have := hat i hic
      rw [Go.Deep.add_add, hc] at this
      rw [this, hu]
    · rw [hB] at hw
      simp only [List.length_map, List.length_range] at hw
      exact Nat.le_trans (Nat.mul_le_mul_right B (by omega)) hw
    · obtain ⟨i, hi', rfl⟩ := List.mem_iff_getElem.1 hy
      obtain ⟨_, _, _, h3, _⟩ := hx i _ (List.getElem?_eq_getElem hi')
      exact h3
    · obtain ⟨i, hi', rfl⟩ := List.mem_iff_getElem.1 hy
      obtain ⟨_, _, _, _, h3⟩ := hx i _ (List.getElem?_eq_getElem hi')
      show s (Rows.uptoBulk (DataW.slice _ _)) _
      rw [← hbk]
      exact h3

/-- Fields, one behind the other. -/
inductive Fs (P : Program) : List Field → Nat → {α : Type} → Kd α → (α → Prop) → (Nat → α → Prop) → Prop
  | one {f : Field} {o : Nat} {α : Type} {d : Kd α} {g : α → Prop} {s : Nat → α → Prop} (ho : f.offset = o) (hc : P.cellsOf f.type = d.sz) (h : Opens P f.type d g s) : Fs P [f] o d g s
  | cons {f : Field} {fs : List Field} {o : Nat} {α β : Type} {d : Kd α} {g : α → Prop} {s : Nat → α → Prop} {d' : Kd β} {g' : β → Prop} {s' : Nat → β → Prop} (ho : f.offset = o) (hc : P.cellsOf f.type = d.sz) (h : Opens P f.type d g s)
      (hr : Fs P fs (o + d.sz) d' g' s') : Fs P (f :: fs) o (Kd.pair d d') (fun x => g x.1 ∧ g' x.2) (fun b x => s b x.1 ∧ s' b x.2)
theorem fs_mono {P : Program} {fs : List Field} {o : Nat} {α : Type} {d : Kd α} {g : α → Prop} {s : Nat → α → Prop} (hF : Fs P fs o d g s) : ∀ (B B' : Nat) (a : α), B ≤ B' → s B a → s B' a := by
  induction hF with
  | one ho hc h => exact h.mono
  | cons ho hc h hr ih => exact fun B B' a hb hs => ⟨h.mono _ _ _ hb hs.1, ih _ _ _ hb hs.2⟩
theorem fs_open {P : Program} {fs : List Field} {o : Nat} {α : Type} {d : Kd α} {g : α → Prop} {s : Nat → α → Prop} (hF : Fs P fs o d g s) : ∀ {H : Type} {enc : TypeId × Value → H} {w : World} {base : Nat} {spare : Nat → Bool} {held : Bool} {n : Nat} {cs : List Value} {xs : List (DataW H × List MemPlace)},
    xs.length = fs.length → cs.length = o + d.sz → (∀ (i : Nat) (f : Field), fs[i]? = some f → DataW.trod enc P w base spare held n f.type ((cs.drop f.offset).take (P.cellsOf f.type)) = xs[i]?) →
    (∀ m ∈ DataW.weightsEach P (fs.map (·.type)) (xs.map (·.1)), m ≤ reachBytes) → ∃ a, d.K w a (cs.drop o) ∧ g a ∧ s (Rows.uptoBulkAll (xs.map (·.1))) a := by
  induction hF with
  | one ho hc h =>
    intro H enc w base spare held n cs xs hl hcl ht hs
    match xs, hl with
    | [x], _ =>
      have h1 := ht 0 _ rfl
      rw [ho, hc, List.take_of_length_le (by rw [List.length_drop]; omega)] at h1
      obtain ⟨a, h2, h3, h4⟩ := h.open_ h1 (fun m hm => hs m (by simp only [List.map_cons, List.map_nil, DataW.weightsEach, List.append_nil]; exact hm))
      exact ⟨a, h2, h3, h.mono _ _ _ (by simp only [List.map_cons, List.map_nil, Rows.uptoBulkAll]; omega) h4⟩
  | @cons f fs o α β d g s d' g' s' ho hc h hr ih =>
    intro H enc w base spare held n cs xs hl hcl ht hs
    match xs, hl with
    | x :: xs, hl =>
      have h1 := ht 0 _ rfl
      rw [ho, hc] at h1
      obtain ⟨a, ha, hg, hsm⟩ := h.open_ h1 (fun m hm => hs m (by simp only [List.map_cons, DataW.weightsEach, List.mem_append]; exact .inl hm))
      have hsz : (Kd.pair d d').sz = d.sz + d'.sz := rfl
      obtain ⟨b, hb, hgb, hsb⟩ := ih (cs := cs) (xs := xs) (by simpa using hl) (by rw [hcl, hsz]; omega) (fun i f' hf => ht (i + 1) f' hf) (fun m hm => hs m (by simp only [List.map_cons, DataW.weightsEach, List.mem_append]; exact .inr hm))
      refine ⟨(a, b), ⟨_, _, ?_, ha, hb⟩, ⟨hg, hgb⟩, h.mono _ _ _ ?_ hsm, fs_mono hr _ _ _ ?_ hsb⟩
      · rw [← List.drop_drop, List.take_append_drop]
      · simp only [List.map_cons, Rows.uptoBulkAll]; omega
      · simp only [List.map_cons, Rows.uptoBulkAll]; omega
theorem opens_struct {P : Program} {t : TypeId} {fs : Array Field} {α β : Type} {d : Kd α} {g : α → Prop} {s : Nat → α → Prop} (f : β → α) (fi : α → β) (hf : ∀ x, f (fi x) = x) (ht : P.underlying t = some (.struct fs)) (hc : P.cellsOf t = d.sz) (hF : Fs P fs.toList 0 d g s) :
    Opens P t (Kd.iso d f) (fun x => g (f x)) (fun b x => s b (f x)) := by
  refine ⟨fun B B' a hb h => fs_mono hF _ _ _ hb h, ?_⟩
  intro H enc w base spare held n cs x h hs
  obtain ⟨xs, n', rfl, rfl, hcl, hxl, hfs⟩ := DataW.trod_struct ht h
  obtain ⟨a, ha, hg, hsm⟩ := fs_open hF (cs := cs) (xs := xs) (by simpa using hxl) (by rw [hcl, hc]; omega) (fun i fd hfd => hfs i fd (by simpa using hfd)) (fun m hm => hs m (by simpa [DataW.weights, ht] using hm))
  refine ⟨fi a, ?_, by show g (f (fi a)); rw [hf]; exact hg, ?_⟩
  · show d.K w (f (fi a)) cs
    rw [hf]
    simpa using ha
  · show s _ (f (fi a))
    rw [hf]
    exact fs_mono hF _ _ _ (by simp only [Rows.uptoBulk]; omega) hsm
/-- What the second form's bound gives for an argument. -/
theorem arg_small {H : Type} {ds gs : List (DataW H)} (hk : Rows.uptoSmall H (ds ++ gs) = true) {d : DataW H} (hd : d ∈ ds) : Rows.uptoBulk d ≤ 1048576 := by
  have h : Rows.uptoBulkAll (ds ++ gs) ≤ 1048576 := of_decide_eq_true hk
  exact Nat.le_trans (part_le (List.mem_append.2 (.inl hd))) h
/-- An argument: its datum's own weights are among the form's. -/
theorem arg_sized {H : Type} {P : Program} {ts : List TypeId} {ds : List (DataW H)} {j : Nat} {t : TypeId} {d : DataW H} (hsz : (DataW.weightsEach P ts ds).all (· ≤ reachBytes) = true) (ht : ts[j]? = some t) (hd : ds[j]? = some d) :
    ∀ m ∈ d.weights P t, m ≤ reachBytes := fun m hm => by
  have := List.all_eq_true.1 hsz m (DataW.weights_mem_each ht hd m hm)
  simpa using this
end Go.Proofs.Ytmmiipnmimjojaa.OpenK
