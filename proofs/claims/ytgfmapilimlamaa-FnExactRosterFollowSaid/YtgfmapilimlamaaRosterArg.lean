/- An argument that is a row of structs: what it holds when the call begins. -/
import Derived.Test.YtgfmapilimlamaaRows
import Derived.Test.YtgfmapilimlamaaQFnExactRosterFollowx0
import Derived.WalkKit
import Derived.ProofKit
import Derived.OpenShut
import Derived.Lib.SmallJoins
import Derived.Deep.Slices
import Derived.Deep.Fields
import Derived.ChangeSame
namespace Go.Proofs.Ytgfmapilimlamaa.QFnExactRosterFollow
open Go Go.Joins Go.ChangeShapes Go.WideShapes Go.RowKit Go.Deep Go.Proofs.YtgfmapilimlamaaW.PrintWords

section
variable {H : Type} {enc : TypeId × Value → H} {P : Program} {w : World} {base : Nat} {spare : Nat → Bool} {held : Bool}
/-- A row of structs of one-cell fields, cell by cell (after the how-to's page on structs). -/
theorem open_slice_fields {t e : TypeId} {fs : Array Field} {fuel : Nat} {cs : List Value} {x : DataW H × List MemPlace} (ht : P.underlying t = some (.slice e)) (he : P.underlying e = some (.struct fs))
    (hone : oneCellFields P fs = true) (hC : P.cellsOf e = fs.size) (h : DataW.trod enc P w base spare held fuel t cs = some x) :
    (cs = [.slice none 0 0]) ∨
    ∃ (a : Addr) (len cap m : Nat), cs = [.slice (some a) len cap] ∧ len ≤ cap ∧ cap ≤ maxLen ∧ len ≤ m ∧
      ∀ i, i < m → ∃ (ys : List (DataW H × List MemPlace)) (n : Nat), ys.length = fs.size ∧
        ∀ (j : Nat) (f : Field), fs[j]? = some f → ∃ (v : Value) (y : DataW H × List MemPlace), w.cell? (a.add (i * fs.size + j)) = some v ∧ ys[j]? = some y ∧ DataW.trod enc P w base spare held n f.type [v] = some y := by
  rcases open_slice ht h with h0 | ⟨a, len, cap, m, n, D, Pl, hcs, hb, hl, hm, hmm, hx, hi⟩
  · exact .inl h0.1
  · refine .inr ⟨a, len, cap, m, hcs, hl, hm, by rw [hmm]; split <;> omega, fun i him => ?_⟩
    obtain ⟨cs', hc, ht'⟩ := hi i him
    rw [hC] at hc
    obtain ⟨ys, n', hn', hy, hlen, hyl, hf⟩ := DataW.trod_struct he ht'
    obtain ⟨_, hcl, hat⟩ := World.cells?_some hc
    refine ⟨ys, n', hyl, fun j f hj => ?_⟩
    obtain ⟨ho, hk⟩ := hone_of hone j f hj
    have hjl : j < fs.size := (Array.getElem?_eq_some_iff.1 hj).1
    have hcell := hat j hjl
    have hv : cs'[j]? = some (cs'[j]'(by omega)) := List.getElem?_eq_getElem (by omega)
    have h1 := hf j f hj
    rw [ho, hk] at h1
    have hone' : (cs'.drop j).take 1 = [cs'[j]'(by omega)] := by
      rw [List.drop_eq_getElem_cons (by omega)]
      rfl
    rw [hone'] at h1
    have hys : ys[j]? = some (ys[j]'(by omega)) := List.getElem?_eq_getElem (by omega)
    refine ⟨_, _, ?_, hys, h1.trans hys⟩
    rw [← Go.Deep.add_add, hcell, hv]
end

/-- Each of the first len of a row's elements picked: a list. -/
theorem pick {α : Type} (R : Nat → α → Prop) : ∀ len : Nat, (∀ i, i < len → ∃ x, R i x) → ∃ l : List α, l.length = len ∧ ∀ (i : Nat) (x : α), l[i]? = some x → R i x
  | 0, _ => ⟨[], rfl, fun i x h => by simp at h⟩
  | len + 1, h => by
    obtain ⟨l, hl, hr⟩ := pick R len (fun i hi => h i (by omega))
    obtain ⟨y, hy⟩ := h len (by omega)
    refine ⟨l ++ [y], by simp [hl], fun i x hx => ?_⟩
    by_cases hi : i < l.length
    · rw [List.getElem?_append_left hi] at hx; exact hr i x hx
    · rw [List.getElem?_append_right (by omega)] at hx
      have : i - l.length = 0 := by
        rcases Nat.eq_zero_or_pos (i - l.length) with h0 | h0
        · exact h0
        · rw [List.getElem?_eq_none (by simp; omega)] at hx; cases hx
      rw [this] at hx
      obtain rfl : y = x := by simpa using hx
      obtain rfl : i = len := by omega
      exact hy

set_option maxRecDepth 100000 in
theorem items_open {H : Type} {enc : TypeId × Value → H} {w : World} {spare : Nat → Bool} {held : Bool} {base b0 : Nat} {r : Reach} {v : Value} {d : DataW H} {p : List MemPlace}
    (hv : Value.okWide Try.prog w r b0 22 v) (h : DataW.Trod enc Try.prog w base spare held 22 v d p) :
    ∃ (A : Option Addr) (c : Nat) (l : List S32), v = .slice A l.length c ∧ l.length ≤ c ∧ l.length ≤ maxLen ∧ (∀ x ∈ l, x.f0.size ≤ maxLen ∧ x.f1.size ≤ maxLen ∧ x.f2.size ≤ maxLen) ∧ Kd.C k32 w A l.length l := by
  obtain ⟨a0, len0, cap0, rfl⟩ := okWide_slice Try.underlying22 hv
  obtain ⟨fuel, hf⟩ := h
  have g2 : DataW.trod enc Try.prog w base spare held fuel 22 [.slice a0 len0 cap0] = some (d, p) := by simpa [Value.cells] using hf
  rcases open_slice_fields Try.underlying22 Try.underlying32 (by kernel_rfl) (by kernel_rfl) g2 with e2 | ⟨a, len, cap, m, e2, hl, hm, hlm, hi⟩
  · simp at e2
    obtain ⟨rfl, rfl, rfl⟩ := e2
    exact ⟨none, 0, [], rfl, Nat.le_refl _, Nat.zero_le _, fun x hx => by simp at hx, rfl, by decide, fun h => absurd h (Nat.lt_irrefl 0)⟩
  · simp at e2
    obtain ⟨rfl, rfl, rfl⟩ := e2
    obtain ⟨l, hll, hR⟩ := pick (fun i (x : S32) => (x.f0.size ≤ maxLen ∧ x.f1.size ≤ maxLen ∧ x.f2.size ≤ maxLen) ∧ w.cell? (a.add (i * 5 + 0)) = some (.string x.f0) ∧ w.cell? (a.add (i * 5 + 1)) = some (.string x.f1) ∧ w.cell? (a.add (i * 5 + 2)) = some (.string x.f2) ∧ w.cell? (a.add (i * 5 + 3)) = some (.int .i64 x.f3) ∧ w.cell? (a.add (i * 5 + 4)) = some (.bool x.f4)) len0 (fun i hil => by
      obtain ⟨ys, nn, _, hj⟩ := hi i (by omega)
      obtain ⟨v0, z0, k0, _, t0⟩ := hj 0 _ rfl
      obtain ⟨v1, z1, k1, _, t1⟩ := hj 1 _ rfl
      obtain ⟨v2, z2, k2, _, t2⟩ := hj 2 _ rfl
      obtain ⟨v3, z3, k3, _, t3⟩ := hj 3 _ rfl
      obtain ⟨v4, z4, k4, _, t4⟩ := hj 4 _ rfl
      obtain ⟨s0, q0, _, m0⟩ := DataW.trod_string Try.underlying9 t0
      obtain ⟨s1, q1, _, m1⟩ := DataW.trod_string Try.underlying9 t1
      obtain ⟨s2, q2, _, m2⟩ := DataW.trod_string Try.underlying9 t2
      obtain ⟨s3, q3, _, m3⟩ := DataW.trod_int Try.underlying2 t3
      obtain ⟨s4, q4, _⟩ := DataW.trod_bool Try.underlying4 t4
      simp at q0 q1 q2 q3 q4
      subst q0 q1 q2 q3 q4
      exact ⟨⟨s0, s1, s2, s3, s4⟩, ⟨m0, m1, m2⟩, k0, k1, k2, k3, k4⟩)
    subst hll
    refine ⟨some a, cap0, l, rfl, hl, by omega, fun x hx => ?_, rfl, by have : maxLen = 9223372036854775807 := rfl; omega, fun _ => ⟨a, rfl, fun j x hx => ?_⟩⟩
    · obtain ⟨j, hj, rfl⟩ := List.mem_iff_getElem.1 hx
      exact (hR j _ (List.getElem?_eq_getElem hj)).1
    · obtain ⟨_, r0, r1, r2, r3, r4⟩ := hR j x hx
      refine ⟨_, rfl, k32_mk w x, fun i u hu => ?_⟩
      match i, hu with
      | 0, hu => obtain rfl := Option.some.inj hu; exact r0
      | 1, hu => obtain rfl := Option.some.inj hu; exact r1
      | 2, hu => obtain rfl := Option.some.inj hu; exact r2
      | 3, hu => obtain rfl := Option.some.inj hu; exact r3
      | 4, hu => obtain rfl := Option.some.inj hu; exact r4
      | i + 5, hu => simp at hu
end Go.Proofs.Ytgfmapilimlamaa.QFnExactRosterFollow
