import Derived.Test.YthmamgnobcnhgaaERight
import Derived.Test.YthmamgnobcnhgaaShelf
import Derived.Sort.OwnSortedInts
namespace Go.Proofs.Ythmamgnobcnhgaa.PM
open Go.RowKit Go.Proofs.YthmamgnobcnhgaaW.PrintWords Go.Proofs.YthmamgnobcnhgaaW.PrintLast Go.Proofs.YthmamgnobcnhgaaW.PrintMore
open Go.Sort
set_option linter.unusedVariables false
set_option linter.unusedSimpArgs false
/-- The numbers sorted. -/
def sortI (l : List Int) : List Int := l.mergeSort fun x y => decide (x ≤ y)
theorem sortI_length (l : List Int) : (sortI l).length = l.length := List.length_mergeSort _
theorem sort_R {w0 w : World} {base : Nat} {ok : Nat → Prop} {v : Value} {xs : List Int} (h : Kd.R (Kd.int .i64) 3 w base ok v xs) (hB : Below base w0 w) (hbase : base ≤ w.heap.size) (hlen : xs.length < 4611686018427387904) :
    Calls Try.prog 48 #[v] w fun e w' => e = .returned (.tuple #[]) ∧ Kd.R (Kd.int .i64) 3 w' base ok v (sortI xs) ∧ Below base w0 w' := by
  have h0 := h.1
  have ho : w.ownsRow base 3 1 v xs.length (xs.map (Value.int .i64)) := Kd.own_of_R (enc := Value.int .i64) (h1 := fun _ => rfl) h
  rcases ho.2 with ⟨hv, hn⟩ | ⟨g, cap, cur, hv, hbg, hb, h1, h2, h3, h4⟩
  · subst hv
    obtain rfl : xs = [] := List.eq_nil_of_length_eq_zero hn
    refine (Try.slices_Sort_int_none none 0 w).mono ?_
    rintro e w' ⟨rfl, rfl⟩
    exact ⟨rfl, by simpa [sortI] using h, hB⟩
  · subst hv
    have hH : Holds (Value.int .i64) w g 0 xs.toArray := holds_of_blockI hb (by simpa using h4)
    have hgl : g < w.heap.size := (Array.getElem?_eq_some_iff.1 hb).1
    have hl2 : (sortI xs).length = xs.length := sortI_length xs
    refine (Try.slices_Sort_int g 0 cap xs w hH hgl hlen).mono ?_
    rintro e w' ⟨rfl, nn, os, rfl⟩
    have hg := grownBy_sortedI (w := w) (g := g) (n := nn) (os := os) (sortI xs).toArray
    have hro := ownsRow_sortedI (n := nn) (os := os) (ts := sortI xs) hl2 hbg hb h1 h2 h3
    refine ⟨rfl, ?_, hB.grown hg hbase (fun k hk => by cases hk; exact hbg)⟩
    exact Kd.R_of_own (enc := Value.int .i64) (h1 := fun _ => rfl) (by rw [hl2]; exact hro) h0
end Go.Proofs.Ythmamgnobcnhgaa.PM
