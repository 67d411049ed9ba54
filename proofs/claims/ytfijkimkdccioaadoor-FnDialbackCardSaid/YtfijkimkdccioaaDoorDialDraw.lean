/- Plain: what is drawn is always told, and is small. -/
import Derived.Test.YtfijkimkdccioaaDoorDialStep
import Derived.Test.YtfijkimkdccioaaDoorQFnDialbackx7
import Derived.Test.YtfijkimkdccioaaDoorQFnDialbackx8
import Derived.Test.YtfijkimkdccioaaDoorQFnDialbackx15
set_option linter.unusedSimpArgs false
set_option linter.unusedVariables false
namespace Go.Proofs.YtfijkimkdccioaaDoor.QFnDialback
open Go Go.RowKit Go.Proofs.YtfijkimkdccioaaDoorW.PrintWords

theorem wrapu (n : Int) : IntKind.u64.wrap n = n % 18446744073709551616 := by simp [IntKind.wrap, IntKind.bits, IntKind.signed]
theorem tmod_in {u a : Int} (h0 : 0 ≤ u) (ha : 2 ≤ a) (hb : a < 9223372036854775808) : 0 ≤ wrap64 (Int.tmod u a) ∧ wrap64 (Int.tmod u a) < a := by
  rw [Int.tmod_eq_emod_of_nonneg h0]
  have h1 := Int.emod_nonneg u (show a ≠ 0 by omega)
  have h2 := Int.emod_lt_of_pos u (show 0 < a by omega)
  generalize u % a = r at *
  unfold wrap64
  omega
theorem u64_nonneg (x : Int) : 0 ≤ IntKind.u64.wrap x := by rw [wrapu]; omega
theorem u64_self {a : Int} (ha : 2 ≤ a) (hb : a < 9223372036854775808) : IntKind.u64.wrap a = a := by rw [wrapu]; omega
theorem n_told (l : List Int) (hl : l.length ≤ 140737488351232) (p mix size a : Int) (hp : 0 ≤ p) (ha : 1 ≤ a) (hb : a < 9223372036854775808) :
    ∃ v p' mix', spec_l01Src_n.f l p mix size a = some (v, p', mix', size) ∧ 0 ≤ v ∧ v < a ∧ 0 ≤ p' := by
  unfold spec_l01Src_n.f
  by_cases h1 : a ≤ 1
  · rw [if_pos h1]; exact ⟨_, _, _, rfl, Int.le_refl 0, by omega, hp⟩
  rw [if_neg h1, u64_self (by omega) hb]
  by_cases h : p < (l.length : Int)
  · rw [if_pos h, if_pos hp, if_neg (by omega)]
    have h2 : 0 ≤ wrap64 (p + 1) := by
      have e : wrap64 (p + 1) = p + 1 := by unfold wrap64; omega
      omega
    exact ⟨_, _, _, rfl, (tmod_in (u64_nonneg _) (by omega) hb).1, (tmod_in (u64_nonneg _) (by omega) hb).2, h2⟩
  · rw [if_neg h, if_neg (by omega)]
    exact ⟨_, _, _, rfl, (tmod_in (u64_nonneg _) (by omega) hb).1, (tmod_in (u64_nonneg _) (by omega) hb).2, hp⟩
theorem one_told (l : List Int) (hl : l.length ≤ 140737488351232) (p mix size a : Int) (hp : 0 ≤ p) (ha : 1 ≤ a) (hb : a < 9223372036854775808) :
    ∃ v p' mix', spec_l01Src_one.f l p mix size a = some (v, p', mix', size) ∧ 0 ≤ p' := by
  obtain ⟨v, p', mix', h, _, _, h2⟩ := n_told l hl p mix size a hp ha hb
  exact ⟨(v == 0), p', mix', by unfold spec_l01Src_one.f; rw [h]; rfl, h2⟩
theorem pick_told (l : List Int) (hl : l.length ≤ 140737488351232) (p mix size : Int) (hp : 0 ≤ p) (xs : List ByteArray) (h0 : 0 < xs.length) (h1 : xs.length ≤ 1000) (hx : ∀ x ∈ xs, x.size ≤ 1000) :
    ∃ s p' mix', spec_l01Src_pick.f l p mix size xs = some (s, p', mix', size) ∧ s.size ≤ 1000 ∧ 0 ≤ p' := by
  obtain ⟨v, p', mix', h, hv0, hv1, h2⟩ := n_told l hl p mix size (xs.length : Int) hp (by omega) (by omega)
  unfold spec_l01Src_pick.f
  rw [h, Option.bind_some]
  dsimp only
  rw [if_pos hv0, if_pos hv1]
  refine ⟨_, p', mix', rfl, ?_, h2⟩
  obtain ⟨m, rfl⟩ : ∃ m : Nat, v = (m : Int) := ⟨v.toNat, by omega⟩
  have hm : m < xs.length := by omega
  have e : rdOf ByteArray.empty xs (m : Int) = xs[m] := by
    unfold rdOf
    rw [Int.toNat_natCast, List.getD_eq_getElem?_getD, List.getElem?_eq_getElem hm]
    rfl
  rw [e]
  exact hx _ (List.getElem_mem hm)
theorem size_in (l : List Int) (hl : l.length ≤ 140737488351232) : 0 ≤ wrap64 ((l.length : Int) / 20) := by
  rw [wrap64_at _ (by omega)]; omega
theorem source_l0 (l : List Int) (hl : l.length ≤ 140737488351232) (d : Nat) : ∀ (k : Nat) (i mix : Int), 0 ≤ i → 64 - i = d → d < k → ∃ mix' size, spec_l01Source.l0 k l i l 0 mix 0 = some (l, 0, mix', size) ∧ 0 ≤ size ∧ size ≤ 12 := by
  have fin : ∀ mix : Int, ∃ mix' size, (if (wrap64 ((l.length : Int) / 20)) > 12 then (some (l, (0 : Int), mix, (12 : Int))) else (some (l, (0 : Int), mix, wrap64 ((l.length : Int) / 20)))) = some (l, 0, mix', size) ∧ 0 ≤ size ∧ size ≤ 12 := fun mix => by
    by_cases c : wrap64 ((l.length : Int) / 20) > 12
    · rw [if_pos c]; exact ⟨_, _, rfl, by decide, by decide⟩
    · rw [if_neg c]; exact ⟨_, _, rfl, size_in l hl, by omega⟩
  induction d with
  | zero =>
    intro k i mix h0 hd hk
    obtain ⟨k, rfl⟩ : ∃ m, k = m + 1 := ⟨k - 1, by omega⟩
    simp only [spec_l01Source.l0]
    by_cases h : i < (l.length : Int)
    · rw [if_pos h, if_neg (by omega)]; exact fin mix
    · rw [if_neg h]; exact fin mix
  | succ d ih =>
    intro k i mix h0 hd hk
    obtain ⟨k, rfl⟩ : ∃ m, k = m + 1 := ⟨k - 1, by omega⟩
    simp only [spec_l01Source.l0]
    by_cases h : i < (l.length : Int)
    · have e : wrap64 (i + 1) = i + 1 := by unfold wrap64; omega
      rw [if_pos h, if_pos (by omega), if_pos h0, e]
      exact ih k (i + 1) _ (by omega) (by omega) (by omega)
    · rw [if_neg h]; exact fin mix
theorem source_told (l : List Int) (hl : l.length ≤ 140737488351232) {k : Nat} (hk : 64 < k) : ∃ mix size, spec_l01Source.f k l = some (l, 0, mix, size) ∧ 0 ≤ size ∧ size ≤ 12 :=
  source_l0 l hl 64 k 0 _ (by omega) (by omega) hk

/-! ### steps -/
theorem bsx {α β : Type} {x : Option α} {v : α} {f : α → Option β} {P : β → Prop} (h : x = some v) (k : ∃ r, f v = some r ∧ P r) : ∃ r, x.bind f = some r ∧ P r := by subst h; exact k

/-! ### a dialback -/
def Out (r : ByteArray × Int × (List S43) × Int × Int × Int) : Prop := Small r.1 r.2.2.1 ∧ 0 ≤ r.2.2.2.1
theorem dial_l0 (l : List Int) (hl : l.length ≤ 140737488351232) (size : Int) (d : Nat) : ∀ (k : Nat) (p mix : Int) (a : ByteArray) (n : Int) (L : List S43), 0 ≤ p → Small a L → L.length ≤ 10 → d ≤ 1000 → d + 1100020 ≤ k →
    ∃ r, spec_l01Src_l06Dialback.l0 k (d : Int) l p mix size a n L = some r ∧ Out r := by
  induction d with
  | zero =>
    intro k p mix a n L hp hS hL _ hk
    obtain ⟨k, rfl⟩ : ∃ m, k = m + 1 := ⟨k - 1, by omega⟩
    rw [spec_l01Src_l06Dialback.l0, if_neg (by decide)]
    obtain ⟨b, p1, m1, e1, hp1⟩ := one_told l hl p mix size 20 hp (by decide) (by decide)
    refine bsx e1 ?_
    dsimp only
    cases b with
    | false =>
      rw [if_neg (by decide)]
      exact ⟨_, rfl, hS, hp1⟩
    | true =>
      rw [if_pos rfl]
      obtain ⟨v, p2, m2, e2, hv0, hv1, hp2⟩ := n_told l hl p1 m1 size 4 hp1 (by decide) (by decide)
      refine bsx e2 ?_
      dsimp only
      by_cases c0 : v = 0
      · rw [if_pos c0]
        refine bsx rfl ?_
        obtain ⟨v3, p3, m3, e3, hv30, hv31, hp3⟩ := n_told l hl p2 m2 size 4 hp2 (by decide) (by decide)
        refine bsx e3 ?_
        dsimp only
        rw [if_pos hv30, if_pos (show v3 < (([0, 1, 1000000000, 1000000001] : List Int).length : Int) from hv31)]
        exact ⟨_, rfl, hS, hp3⟩
      · rw [if_neg c0]
        by_cases c1 : v = 1
        · rw [if_pos c1, if_pos (by omega)]
          exact ⟨_, rfl, small_push hS (show (⟨#[98]⟩ : ByteArray).size ≤ 1000 by decide) (by omega), hp2⟩
        · rw [if_neg c1]
          by_cases c2 : v = 2
          · rw [if_pos c2]
            exact ⟨_, rfl, ⟨show (⟨#[65]⟩ : ByteArray).size ≤ 1000 by decide, hS.len, hS.each⟩, hp2⟩
          · rw [if_neg c2]
            by_cases c3 : (L.length : Int) > 0
            · rw [if_pos c3]
              obtain ⟨v3, p3, m3, e3, hv30, hv31, hp3⟩ := n_told l hl p2 m2 size 5 hp2 (by decide) (by decide)
              refine bsx e3 ?_
              dsimp only
              rw [if_pos (show 0 < (L.length : Int) from c3)]
              refine ⟨_, rfl, small_set hS ?_, hp3⟩
              have h0 : 0 < L.length := by omega
              have e : rd_T43 L 0 = L[0] := rd43 L 0 h0
              show (rd_T43 L 0).f0.size ≤ 1000
              rw [e]
              exact hS.each _ (List.getElem_mem h0)
            · rw [if_neg c3]
              exact ⟨_, rfl, hS, hp2⟩
  | succ d ih =>
    intro k p mix a n L hp hS hL hd hk
    obtain ⟨k, rfl⟩ : ∃ m, k = m + 1 := ⟨k - 1, by omega⟩
    have hw : wrap64 (((d + 1 : Nat) : Int) - 1) = (d : Int) := by rw [wrap64_at _ (by omega)]; omega
    rw [spec_l01Src_l06Dialback.l0, if_pos (by omega), hw]
    obtain ⟨v, p1, m1, e1, hv0, hv1, hp1⟩ := n_told l hl p mix size 4 hp (by decide) (by decide)
    refine bsx e1 ?_
    dsimp only
    by_cases c0 : v = 0
    · rw [if_pos c0]
      obtain ⟨v2, p2, m2, e2, hv20, hv21, hp2⟩ := n_told l hl p1 m1 size 4 hp1 (by decide) (by decide)
      refine bsx e2 ?_
      dsimp only
      obtain ⟨o1, o2, o3, o4, o5, f1, _, fs, fo, _⟩ := result_told a n L (wrap64 (1 + v2)) (⟨#[107]⟩ : ByteArray) hS (by decide) k (by omega)
      refine bsx f1 ?_
      dsimp only
      by_cases c : o5 = 0
      · rw [if_pos c]
        obtain ⟨_, _, _, q, hq, _, _, _, _, hset⟩ := fo c
        exact ih k p2 m2 o1 o2 o3 hp2 fs (by rw [hset, List.length_set]; exact hL) (by omega) (by omega)
      · rw [if_neg c]
        exact ih k p2 m2 a n L hp2 hS hL (by omega) (by omega)
    · rw [if_neg c0]
      by_cases c1 : v = 1
      · rw [if_pos c1]
        obtain ⟨v2, p2, m2, e2, hv20, hv21, hp2⟩ := n_told l hl p1 m1 size 4 hp1 (by decide) (by decide)
        refine bsx e2 ?_
        dsimp only
        obtain ⟨b, p3, m3, e3, hp3⟩ := one_told l hl p2 m2 size 2 hp2 (by decide) (by decide)
        refine bsx e3 ?_
        dsimp only
        obtain ⟨o1, o2, o3, o4, o5, f1, _, fs, fo, _⟩ := verified_told a n L (wrap64 (1 + v2)) b hS k (by omega)
        refine bsx f1 ?_
        dsimp only
        by_cases c : o5 = 0
        · rw [if_pos c]
          obtain ⟨_, q, hq, _, _, _, _, hset⟩ := fo c
          exact ih k p3 m3 o1 o2 o3 hp3 fs (by rw [hset, List.length_set]; exact hL) (by omega) (by omega)
        · rw [if_neg c]
          exact ih k p3 m3 a n L hp3 hS hL (by omega) (by omega)
      · rw [if_neg c1]
        obtain ⟨s, p2, m2, e2, hs, hp2⟩ := pick_told l hl p1 m1 size hp1 [(⟨#[98]⟩ : ByteArray), (⟨#[99, 46, 100]⟩ : ByteArray)] (by decide) (by decide) (by decide)
        refine bsx e2 ?_
        dsimp only
        obtain ⟨o1, o2, o3, o4, o5, f1, _, fs, fo⟩ := open_told a n L s hS hs k (by omega)
        refine bsx f1 ?_
        dsimp only
        by_cases c : o5 = 0
        · rw [if_pos c]
          obtain ⟨_, _, hlt, _, _, _, hset, _⟩ := fo c
          exact ih k p2 m2 o1 o2 o3 hp2 fs (by rw [hset, List.length_append]; show _ + 1 ≤ 10; omega) (by omega) (by omega)
        · rw [if_neg c]
          exact ih k p2 m2 a n L hp2 hS hL (by omega) (by omega)
theorem dial_told (l : List Int) (hl : l.length ≤ 140737488351232) (mix size : Int) (h0 : 0 ≤ size) (h1 : size ≤ 12) (k : Nat) (hk : 1200000 ≤ k) : ∃ r, spec_l01Src_l06Dialback.f k l 0 mix size = some r ∧ Out r := by
  have ht : Int.tdiv size 2 = size / 2 := Int.tdiv_eq_ediv_of_nonneg h0
  have hw : wrap64 (6 + wrap64 (Int.tdiv size 2)) = 6 + size / 2 := by rw [ht, wrap64_at (size / 2) (by omega), wrap64_at _ (by omega)]
  unfold spec_l01Src_l06Dialback.f
  rw [hw]
  obtain ⟨v, p1, m1, e1, hv0, hv1, hp1⟩ := n_told l hl 0 mix size (6 + size / 2) (Int.le_refl 0) (by omega) (by omega)
  refine bsx e1 ?_
  dsimp only
  obtain ⟨d, rfl⟩ : ∃ d : Nat, v = (d : Int) := ⟨v.toNat, by omega⟩
  exact dial_l0 l hl size d k p1 m1 (⟨#[97]⟩ : ByteArray) 1 [] hp1 ⟨show (⟨#[97]⟩ : ByteArray).size ≤ 1000 by decide, by simp, fun x hx => by simp at hx⟩ (by simp) (by omega) (by omega)

/-! ### what the law draws -/
theorem draw_open (l : List Int) (hl : l.length ≤ 140737488351232) (k : Nat) (hk : 1200000 ≤ k) : ∃ r, spec_DrawDbOpen.f k l = some r ∧ Small r.1 r.2.2.1 ∧ r.2.2.2.size ≤ 1000 := by
  obtain ⟨mix, size, e0, h0, h1⟩ := source_told l hl (k := k) (by omega)
  unfold spec_DrawDbOpen.f
  refine bsx e0 ?_
  dsimp only
  obtain ⟨r, e1, hr, hp⟩ := dial_told l hl mix size h0 h1 k hk
  refine bsx e1 ?_
  obtain ⟨s, p2, m2, e2, hs, hp2⟩ := pick_told l hl r.2.2.2.1 r.2.2.2.2.1 r.2.2.2.2.2 hp [(⟨#[98]⟩ : ByteArray), (⟨#[120, 46, 121]⟩ : ByteArray), (⟨#[65]⟩ : ByteArray)] (by decide) (by decide) (by decide)
  refine bsx e2 ?_
  exact ⟨_, rfl, hr, hs⟩
theorem zeros_size (n : Nat) : (strOfNums (List.replicate n 0)).size = n := by simp [strOfNums, ByteArray.size]
theorem draw_result (l : List Int) (hl : l.length ≤ 140737488351232) (k : Nat) (hk : 1200000 ≤ k) : ∃ r, spec_DrawDbResult.f k l = some r ∧ Small r.1 r.2.2.1 ∧ r.2.2.2.2.size ≤ 1000 := by
  obtain ⟨mix, size, e0, h0, h1⟩ := source_told l hl (k := k) (by omega)
  unfold spec_DrawDbResult.f
  refine bsx e0 ?_
  dsimp only
  obtain ⟨r, e1, hr, hp⟩ := dial_told l hl mix size h0 h1 k hk
  refine bsx e1 ?_
  obtain ⟨v, p2, m2, e2, _, _, hp2⟩ := n_told l hl r.2.2.2.1 r.2.2.2.2.1 r.2.2.2.2.2 6 hp (by decide) (by decide)
  refine bsx e2 ?_
  rw [if_pos (by decide), if_pos (by decide)]
  obtain ⟨s, p3, m3, e3, hs, hp3⟩ := pick_told l hl p2 m2 r.2.2.2.2.2 hp2 [(⟨#[107]⟩ : ByteArray), (⟨#[107, 101, 121]⟩ : ByteArray), (⟨#[]⟩ : ByteArray), strOfNums (List.replicate 64 0), strOfNums (List.replicate 65 0)] (by simp) (by simp) (fun x hx => by
    simp only [List.mem_cons, List.not_mem_nil, or_false] at hx
    rcases hx with rfl | rfl | rfl | rfl | rfl
    · decide
    · decide
    · decide
    · rw [zeros_size]; decide
    · rw [zeros_size]; decide)
  refine bsx e3 ?_
  exact ⟨_, rfl, hr, hs⟩
theorem draw_verified (l : List Int) (hl : l.length ≤ 140737488351232) (k : Nat) (hk : 1200000 ≤ k) : ∃ r, spec_DrawDbVerified.f k l = some r ∧ Small r.1 r.2.2.1 := by
  obtain ⟨mix, size, e0, h0, h1⟩ := source_told l hl (k := k) (by omega)
  unfold spec_DrawDbVerified.f
  refine bsx e0 ?_
  dsimp only
  obtain ⟨r, e1, hr, hp⟩ := dial_told l hl mix size h0 h1 k hk
  refine bsx e1 ?_
  obtain ⟨v, p2, m2, e2, _, _, hp2⟩ := n_told l hl r.2.2.2.1 r.2.2.2.2.1 r.2.2.2.2.2 6 hp (by decide) (by decide)
  refine bsx e2 ?_
  obtain ⟨b, p3, m3, e3, hp3⟩ := one_told l hl p2 m2 r.2.2.2.2.2 2 hp2 (by decide) (by decide)
  refine bsx e3 ?_
  exact ⟨_, rfl, hr⟩
def OutT (r : ByteArray × Int × (List S43) × ByteArray × Int) : Prop := Small r.1 r.2.2.1 ∧ r.2.2.2.1.size ≤ 1000
theorem trusts_j1 (l : List Int) (hl : l.length ≤ 140737488351232) (from' : ByteArray) (hf : from'.size ≤ 1000) (id p mix size : Int) (hp : 0 ≤ p) (a : ByteArray) (n : Int) (L : List S43) (hS : Small a L) (d : ByteArray) (hd : d.size ≤ 1000) (i s : Int) (q : ByteArray) (k : Nat) (hk : 1100020 ≤ k) :
    ∃ r, spec_DrawDbTrusts.j1 k from' id l p mix size a n L d i s q = some r ∧ OutT r := by
  obtain ⟨k, rfl⟩ : ∃ m, k = m + 1 := ⟨k - 1, by omega⟩
  rw [spec_DrawDbTrusts.j1]
  obtain ⟨b, p1, m1, e1, hp1⟩ := one_told l hl p mix size 4 hp (by decide) (by decide)
  refine bsx e1 ?_
  dsimp only
  obtain ⟨o1, o2, o3, o4, o5, f1, _, fs, _, _⟩ := verified_told a n L id (!b) hS k (by omega)
  refine bsx f1 ?_
  dsimp only
  obtain ⟨b2, p2, m2, e2, hp2⟩ := one_told l hl p1 m1 size 5 hp1 (by decide) (by decide)
  by_cases c : o5 = 0
  · rw [if_pos c]
    refine bsx e2 ?_
    dsimp only
    cases b2 with
    | true => rw [if_pos rfl]; exact ⟨_, rfl, fs, hf⟩
    | false => rw [if_neg (by decide)]; exact ⟨_, rfl, fs, hd⟩
  · rw [if_neg c]
    refine bsx e2 ?_
    dsimp only
    cases b2 with
    | true => rw [if_pos rfl]; exact ⟨_, rfl, hS, hf⟩
    | false => rw [if_neg (by decide)]; exact ⟨_, rfl, hS, hd⟩
theorem trusts_j0 (l : List Int) (hl : l.length ≤ 140737488351232) (from' : ByteArray) (hf : from'.size ≤ 1000) (id p mix size : Int) (hp : 0 ≤ p) (a : ByteArray) (n : Int) (L : List S43) (hS : Small a L) (b : Bool) (hb : b = true → 0 < L.length) (k : Nat) (hk : 1100030 ≤ k) :
    ∃ r, spec_DrawDbTrusts.j0 k from' id b l p mix size a n L = some r ∧ OutT r := by
  obtain ⟨k, rfl⟩ : ∃ m, k = m + 1 := ⟨k - 1, by omega⟩
  rw [spec_DrawDbTrusts.j0]
  by_cases c : b = true
  · have h0 := hb c
    have hlen := hS.len
    rw [if_pos c]
    obtain ⟨v, p1, m1, e1, hv0, hv1, hp1⟩ := n_told l hl p mix size (L.length : Int) hp (by omega) (by omega)
    refine bsx e1 ?_
    dsimp only
    rw [if_pos hv0, if_pos hv1]
    obtain ⟨m, rfl⟩ : ∃ m : Nat, v = (m : Int) := ⟨v.toNat, by omega⟩
    have hm : m < L.length := by omega
    have hx := hS.each _ (List.getElem_mem hm)
    rw [rd43 L m hm]
    obtain ⟨o1, o2, o3, o4, o5, f1, _, fs, _, _⟩ := result_told a n L L[m].f1 (⟨#[107]⟩ : ByteArray) hS (by decide) k (by omega)
    refine bsx f1 ?_
    dsimp only
    by_cases c5 : o5 = 0
    · rw [if_pos c5]
      exact trusts_j1 l hl from' hf _ p1 m1 size hp1 o1 o2 o3 fs _ hx _ _ _ k (by omega)
    · rw [if_neg c5]
      exact trusts_j1 l hl from' hf _ p1 m1 size hp1 a n L hS _ hx _ _ _ k (by omega)
  · rw [if_neg c]
    exact ⟨_, rfl, hS, hf⟩
theorem draw_trusts (l : List Int) (hl : l.length ≤ 140737488351232) (k : Nat) (hk : 1200000 ≤ k) : ∃ r, spec_DrawDbTrusts.f k l = some r ∧ OutT r := by
  obtain ⟨mix, size, e0, h0, h1⟩ := source_told l hl (k := k) (by omega)
  unfold spec_DrawDbTrusts.f
  refine bsx e0 ?_
  dsimp only
  obtain ⟨r, e1, hr, hp⟩ := dial_told l hl mix size h0 h1 k hk
  refine bsx e1 ?_
  obtain ⟨s, p2, m2, e2, hs, hp2⟩ := pick_told l hl r.2.2.2.1 r.2.2.2.2.1 r.2.2.2.2.2 hp [(⟨#[98]⟩ : ByteArray), (⟨#[99, 46, 100]⟩ : ByteArray)] (by decide) (by decide) (by decide)
  refine bsx e2 ?_
  dsimp only
  obtain ⟨v, p3, m3, e3, _, _, hp3⟩ := n_told l hl p2 m2 r.2.2.2.2.2 6 hp2 (by decide) (by decide)
  refine bsx e3 ?_
  dsimp only
  by_cases c : (r.2.2.1.length : Int) > 0
  · rw [if_pos c]
    obtain ⟨b, p4, m4, e4, hp4⟩ := one_told l hl p3 m3 r.2.2.2.2.2 3 hp3 (by decide) (by decide)
    refine bsx e4 ?_
    exact trusts_j0 l hl s hs _ p4 m4 _ hp4 r.1 r.2.1 r.2.2.1 hr _ (fun _ => by omega) k (by omega)
  · rw [if_neg c]
    exact trusts_j0 l hl s hs _ p3 m3 _ hp3 r.1 r.2.1 r.2.2.1 hr _ (fun h => absurd h (by decide)) k (by omega)
end Go.Proofs.YtfijkimkdccioaaDoor.QFnDialback
