/- An argument that is a dialback (a struct with a row of structs in it): what it holds when the call begins. -/
import Derived.Test.YtjchggdekbnmnaaDoorRows
import Derived.Test.YtjchggdekbnmnaaDoorQFnExactDbResultx0
import Derived.WalkKit
import Derived.ProofKit
import Derived.OpenShut
import Derived.Lib.SmallJoins
import Derived.Deep.Slices
import Derived.Deep.Fields
import Derived.ChangeSame
namespace Go.Proofs.YtjchggdekbnmnaaDoor.QFnExactDbResult
open Go Go.Joins Go.ChangeShapes Go.WideShapes Go.RowKit Go.Deep Go.Proofs.YtjchggdekbnmnaaDoorW.PrintWords

section
variable {H : Type} {enc : TypeId × Value → H} {P : Program} {w : World} {base : Nat} {spare : Nat → Bool} {held : Bool}
/-- A row of structs of one-cell fields, cell by cell (after the how-to's page on structs). -/
theorem open_slice_fields {t e : TypeId} {fs : Array Field} {fuel : Nat} {cs : List Value} {x : DataW H × List MemPlace} (ht : P.underlying t = some (.slice e)) (he : P.underlying e = some (.struct fs))
    (hone : oneCellFields P fs = true) (hC : P.cellsOf e = fs.size) (h : DataW.trod enc P w base spare held fuel t cs = some x) :
    (cs = [.slice none 0 0]) ∨
    ∃ (a : Addr) (len cap m : Nat), cs = [.slice (some a) len cap] ∧ len ≤ cap ∧ cap ≤ maxLen ∧ len ≤ m ∧
      ∀ i, i < m → ∃ (ys : List (DataW H × List MemPlace)) (n : Nat), ys.length = fs.size ∧
        ∀ (j : Nat) (f : Field), fs[j]? = some f → ∃ (v : Value) (y : DataW H × List MemPlace), w.cell? (a.add (i * fs.size + j)) = some v ∧ ys[j]? = some y ∧ DataW.trod enc P w base spare held n f.type [v] = some y := by
  rcases open_slice ht h with h0 | ⟨a, len, cap, m, n, D, Pl, hcs, hb, hl, hm, hmm, hx, hi⟩
  · exact .inl h0.1
  · refine .inr ⟨a, len, cap, m, hcs, hl, hm, by rw [hmm]; split <;> omega, fun i him => ?_⟩
    obtain ⟨cs', hc, ht'⟩ := hi i him
    rw [hC] at hc
    obtain ⟨ys, n', hn', hy, hlen, hyl, hf⟩ := DataW.trod_struct he ht'
    obtain ⟨_, hcl, hat⟩ := World.cells?_some hc
    refine ⟨ys, n', hyl, fun j f hj => ?_⟩
    obtain ⟨ho, hk⟩ := hone_of hone j f hj
    have hjl : j < fs.size := (Array.getElem?_eq_some_iff.1 hj).1
    have hcell := hat j hjl
    have hv : cs'[j]? = some (cs'[j]'(by omega)) := List.getElem?_eq_getElem (by omega)
    have h1 := hf j f hj
    rw [ho, hk] at h1
    have hone' : (cs'.drop j).take 1 = [cs'[j]'(by omega)] := by
      rw [List.drop_eq_getElem_cons (by omega)]
      rfl
    rw [hone'] at h1
    have hys : ys[j]? = some (ys[j]'(by omega)) := List.getElem?_eq_getElem (by omega)
    refine ⟨_, _, ?_, hys, h1.trans hys⟩
    rw [← Go.Deep.add_add, hcell, hv]
end

/-- Each of the first len of a row's elements picked: a list. -/
theorem pick {α : Type} (R : Nat → α → Prop) : ∀ len : Nat, (∀ i, i < len → ∃ x, R i x) → ∃ l : List α, l.length = len ∧ ∀ (i : Nat) (x : α), l[i]? = some x → R i x
  | 0, _ => ⟨[], rfl, fun i x h => by simp at h⟩
  | len + 1, h => by
    obtain ⟨l, hl, hr⟩ := pick R len (fun i hi => h i (by omega))
    obtain ⟨y, hy⟩ := h len (by omega)
    refine ⟨l ++ [y], by simp [hl], fun i x hx => ?_⟩
    by_cases hi : i < l.length
    · rw [List.getElem?_append_left hi] at hx; exact hr i x hx
    · rw [List.getElem?_append_right (by omega)] at hx
      have : i - l.length = 0 := by
        rcases Nat.eq_zero_or_pos (i - l.length) with h0 | h0
        · exact h0
        · rw [List.getElem?_eq_none (by simp; omega)] at hx; cases hx
      rw [this] at hx
      obtain rfl : y = x := by simpa using hx
      obtain rfl : i = len := by omega
      exact hy

set_option maxRecDepth 100000 in
theorem dialback_open {H : Type} {enc : TypeId × Value → H} {w : World} {spare : Nat → Bool} {held : Bool} {base b0 : Nat} {r : Reach} {v : Value} {d : DataW H} {p : List MemPlace}
    (hv : Value.okWide Tryd.prog w r b0 35 v) (h : DataW.Trod enc Tryd.prog w base spare held 35 v d p) :
    ∃ (a : ByteArray) (n : Int) (A : Option Addr) (c : Nat) (l : List S97), v = .agg #[.string a, .int .i64 n, .slice A l.length c] ∧
      a.size ≤ maxLen ∧ l.length ≤ c ∧ l.length ≤ maxLen ∧ (∀ x ∈ l, x.f0.size ≤ maxLen ∧ x.f3.size ≤ maxLen) ∧ Kd.C k97 w A l.length l := by
  obtain ⟨cs, rfl, hsz⟩ := okWide_struct Tryd.underlying35 hv
  obtain ⟨l⟩ := cs
  have hC : Tryd.prog.cellsOf 35 = 3 := by kernel_rfl
  have hI : Tryd.prog.cellsOf 2 = 1 := by kernel_rfl
  have hS : Tryd.prog.cellsOf 9 = 1 := by kernel_rfl
  have hP : Tryd.prog.cellsOf 33 = 1 := by kernel_rfl
  match l, hsz.trans hC with
  | [c0, c1, c2], _ =>
    obtain ⟨fuel, hf⟩ := h
    obtain ⟨xs, n, _, _, _, hlen, hg⟩ := DataW.trod_struct Tryd.underlying35 hf
    match xs, hlen with
    | [y0, y1, y2], _ =>
      have g0 := hg 0 _ rfl
      have g1 := hg 1 _ rfl
      have g2 := hg 2 _ rfl
      simp [Value.cells, hI, hS, hP] at g0 g1 g2
      obtain ⟨a0, e0, _, w0⟩ := DataW.trod_string Tryd.underlying9 g0
      obtain ⟨a1, e1, _, w1⟩ := DataW.trod_int Tryd.underlying2 g1
      simp at e0 e1
      subst e0 e1
      rcases open_slice_fields Tryd.underlying33 Tryd.underlying97 (by kernel_rfl) (by kernel_rfl) g2 with e2 | ⟨a, len, cap, m, e2, hl, hm, hlm, hi⟩
      · simp at e2
        subst e2
        exact ⟨a0, a1, none, 0, [], rfl, w0, Nat.le_refl _, Nat.zero_le _, fun x hx => by simp at hx, rfl, by decide, fun h => absurd h (Nat.lt_irrefl 0)⟩
      · simp at e2
        subst e2
        obtain ⟨l, hll, hR⟩ := pick (fun i (x : S97) => (x.f0.size ≤ maxLen ∧ x.f3.size ≤ maxLen) ∧ w.cell? (a.add (i * 4 + 0)) = some (.string x.f0) ∧ w.cell? (a.add (i * 4 + 1)) = some (.int .i64 x.f1) ∧ w.cell? (a.add (i * 4 + 2)) = some (.int .i64 x.f2) ∧ w.cell? (a.add (i * 4 + 3)) = some (.string x.f3)) len (fun i hil => by
          obtain ⟨ys, nn, _, hj⟩ := hi i (by omega)
          obtain ⟨v0, z0, k0, _, t0⟩ := hj 0 _ rfl
          obtain ⟨v1, z1, k1, _, t1⟩ := hj 1 _ rfl
          obtain ⟨v2, z2, k2, _, t2⟩ := hj 2 _ rfl
          obtain ⟨v3, z3, k3, _, t3⟩ := hj 3 _ rfl
          obtain ⟨s0, q0, _, m0⟩ := DataW.trod_string Tryd.underlying9 t0
          obtain ⟨s1, q1, _, m1⟩ := DataW.trod_int Tryd.underlying2 t1
          obtain ⟨s2, q2, _, m2⟩ := DataW.trod_int Tryd.underlying2 t2
          obtain ⟨s3, q3, _, m3⟩ := DataW.trod_string Tryd.underlying9 t3
          simp at q0 q1 q2 q3
          subst q0 q1 q2 q3
          exact ⟨⟨s0, s1, s2, s3⟩, ⟨m0, m3⟩, k0, k1, k2, k3⟩)
        subst hll
        refine ⟨a0, a1, some a, cap, l, rfl, w0, hl, by omega, fun x hx => ?_, rfl, by have : maxLen = 9223372036854775807 := rfl; omega, fun _ => ⟨a, rfl, fun j x hx => ?_⟩⟩
        · obtain ⟨j, hj, rfl⟩ := List.mem_iff_getElem.1 hx
          exact (hR j _ (List.getElem?_eq_getElem hj)).1
        · obtain ⟨_, r0, r1, r2, r3⟩ := hR j x hx
          refine ⟨_, rfl, k97_mk w x, fun i u hu => ?_⟩
          match i, hu with
          | 0, hu => obtain rfl := Option.some.inj hu; exact r0
          | 1, hu => obtain rfl := Option.some.inj hu; exact r1
          | 2, hu => obtain rfl := Option.some.inj hu; exact r2
          | 3, hu => obtain rfl := Option.some.inj hu; exact r3
          | i + 4, hu => simp at hu
end Go.Proofs.YtjchggdekbnmnaaDoor.QFnExactDbResult
