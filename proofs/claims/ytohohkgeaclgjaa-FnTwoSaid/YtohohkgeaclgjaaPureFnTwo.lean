/- Plain: the law of FnTwo: what is drawn keeps the invariant, and when nothing is under way both halves agree. -/
import Derived.Test.YtohohkgeaclgjaaQFnTwox3
import Derived.Test.YtohohkgeaclgjaaTwoSteps
set_option linter.unusedSimpArgs false
set_option linter.unusedVariables false
namespace Go.Proofs.Ytohohkgeaclgjaa.Pure
open Go Go.RowKit Go.Proofs.Ytohohkgeaclgjaa.QFnTwo Go.Proofs.Ytohohkgeaclgjaa.TwoPlain Go.Proofs.YtohohkgeaclgjaaW.PrintWords Go.Proofs.YtohohkgeaclgjaaW.PrintLast
def pr (s : S32) : Int × Int := (s.f0, s.f1)
theorem w64 (x : Int) (h0 : 0 ≤ x) (h1 : x ≤ 3000000000) : wrap64 x = x := by
  unfold wrap64
  omega
theorem rd32 (l : List S32) (i : Nat) (h : i < l.length) : rd_T32 l (i : Int) = l[i] := by
  unfold rd_T32
  rw [Int.toNat_natCast, List.getD_eq_getElem?_getD, List.getElem?_eq_getElem h]
  rfl
/-- A drawn number below four. -/
theorem at4 (l : List Int) (hl : l.length ≤ 1048576) (hw : ∀ x ∈ l, 0 ≤ x ∧ x ≤ 255) (i : Nat) (hi : i ≤ 1000) : ∃ v : Int, laws_lwAt.f l (i : Int) 4 = some v ∧ 0 ≤ v ∧ v ≤ 3 := by
  unfold laws_lwAt.f
  rw [if_neg (by decide)]
  by_cases h0 : (l.length : Int) = 0
  · rw [if_pos h0]; exact ⟨0, rfl, by decide, by decide⟩
  · have hlen : 0 < l.length := by omega
    have hm : i % l.length < l.length := Nat.mod_lt _ hlen
    have e : Int.tmod (i : Int) (l.length : Int) = ((i % l.length : Nat) : Int) := by
      rw [Int.tmod_eq_emod_of_nonneg (by omega)]
      exact (Int.natCast_emod i l.length).symm
    have hrd : rd l ((i % l.length : Nat) : Int) = l[i % l.length] := by
      unfold rd
      rw [Int.toNat_natCast, List.getD_eq_getElem?_getD, List.getElem?_eq_getElem hm]
      rfl
    rw [if_neg h0, e, if_pos (by omega), if_pos (by omega), if_neg (by decide), hrd]
    obtain ⟨b0, b1⟩ := hw _ (List.getElem_mem hm)
    generalize l[i % l.length] = x at b0 b1
    rw [w64 x b0 (by omega), Int.tmod_eq_emod_of_nonneg b0]
    exact ⟨_, rfl, by omega, by omega⟩
theorem right_of {h : H5} (hk : h.ok) : impl_HalfRight.f h.n h.o h.t h.i h.f = some true := by
  unfold H5.ok at hk
  obtain ⟨h1, h2, h3, h4, h5, h6, h7, h8, h9, h10, h11, h12⟩ := hk
  rw [impl_HalfSay.right_dec, decide_eq_true ⟨⟨h1, h2⟩, ⟨h3, h4, h5, h6, h7⟩, ⟨h8, h9, h10, h11, h12⟩⟩]
theorem hear_of (h : H5) (s : S32) (hk : h.ok) (hs0 : okS (pr s)) :
    impl_HalfHear.f h.n h.o h.t h.i h.f s.f0 s.f1 = some ((h.hear (pr s)).n, (h.hear (pr s)).o, (h.hear (pr s)).t, (h.hear (pr s)).i, (h.hear (pr s)).f, [], 0) := by
  obtain ⟨s1, s2, s3, s4⟩ := hs0
  obtain ⟨k, m⟩ := s
  obtain ⟨n, o, t, i, f⟩ := h
  have e := right_of hk
  simp only [pr] at s1 s2 s3 s4 e ⊢
  unfold impl_HalfHear.f
  rw [e]
  simp only [Option.bind_some, if_true]
  rw [if_pos ⟨⟨s1, s2⟩, s3, s4⟩]
  refine congrArg some ?_
  have hk4 : k = 1 ∨ k = 2 ∨ k = 3 ∨ k = 4 := by omega
  unfold impl_HalfHear.hear H5.hear hs hp
  rcases hk4 with rfl | rfl | rfl | rfl
  · simp
  · by_cases c : o = m <;> simp [c]
  · simp
  · simp
/-- What an act makes of it. -/
theorem say_of (h : H5) (b : H5) (ab ba : List (Int × Int)) (hi : Inv h b ab ba) (kind : Int) (k1 : 1 ≤ kind) (k2 : kind ≤ 4) :
    ∃ (r : H5) (q : List S32) (c : Int), impl_HalfSay.f h.n h.o h.t h.i h.f kind = some (r.n, r.o, r.t, r.i, r.f, q, c) ∧ (c = 0 → ∃ s : S32, q = [s] ∧ Inv r b (ab ++ [pr s]) ba) := by
  have e := right_of hi.ra
  obtain ⟨n, o, t, i, f⟩ := h
  simp only at e ⊢
  unfold impl_HalfSay.f
  rw [e]
  simp only [Option.bind_some, if_true]
  rw [if_pos ⟨k1, k2⟩]
  have hk4 : kind = 1 ∨ kind = 3 ∨ kind = 2 ∨ kind = 4 := by omega
  have ill : ∀ c : Int, c ≠ 0 → ∃ (r : H5) (q : List S32) (c' : Int), some (impl_HalfSay.ill c) = some (r.n, r.o, r.t, r.i, r.f, q, c') ∧ (c' = 0 → ∃ s : S32, q = [s] ∧ Inv r b (ab ++ [pr s]) ba) :=
    fun c hc => ⟨⟨0, 0, 0, 0, 0⟩, [], c, rfl, fun h => absurd h hc⟩
  unfold impl_HalfSay.say
  rcases hk4 with rfl | rfl | rfl | rfl
  · rw [if_pos rfl]
    by_cases ho : o = 0
    · subst ho
      rw [if_pos rfl]
      by_cases ht : t = 0
      · subst ht
        rw [if_pos rfl]
        by_cases hn : n = 1000000000
        · rw [if_pos hn]; exact ill 9 (by decide)
        · rw [if_neg hn]
          have hle : n ≤ 1000000000 := hi.ra.2.1
          exact ⟨⟨n + 1, n + 1, 0, i, f⟩, [⟨1, n + 1⟩], 0, rfl, fun _ => ⟨_, rfl, hi.ask (by omega)⟩⟩
      · rw [if_neg ht]; exact ill 10 (by decide)
    · rw [if_neg ho]; exact ill 10 (by decide)
  · rw [if_neg (by decide), if_pos rfl]
    by_cases hm : o + t = 0
    · rw [if_pos hm]; exact ill 10 (by decide)
    · rw [if_neg hm]
      exact ⟨⟨n, 0, 0, i, f⟩, [⟨3, o + t⟩], 0, rfl, fun _ => ⟨_, rfl, hi.leave hm⟩⟩
  · rw [if_neg (by decide), if_neg (by decide), if_pos rfl]
    by_cases hm : i = 0
    · rw [if_pos hm]; exact ill 10 (by decide)
    · rw [if_neg hm]
      exact ⟨⟨n, o, t, 0, i⟩, [⟨2, i⟩], 0, rfl, fun _ => ⟨_, rfl, hi.grant hm⟩⟩
  · rw [if_neg (by decide), if_neg (by decide), if_neg (by decide)]
    by_cases hm : i + f = 0
    · rw [if_pos hm]; exact ill 10 (by decide)
    · rw [if_neg hm]
      exact ⟨⟨n, o, t, 0, 0⟩, [⟨4, i + f⟩], 0, rfl, fun _ => ⟨_, rfl, hi.deny hm⟩⟩
theorem bs {α β : Type} {x : Option α} {v : α} {f : α → Option β} {r : Option β} (h : x = some v) (k : f v = r) : x.bind f = r := by subst h; exact k
theorem map_drop {l : List S32} {j : Nat} (h : j < l.length) : (l.drop j).map pr = pr l[j] :: (l.drop (j + 1)).map pr := by
  rw [List.drop_eq_getElem_cons h, List.map_cons]
/-- The last queue is heard. -/
theorem last (x6 : List S32) (hx : x6.length ≤ 1000) : ∀ (d j : Nat) (a b : H5), j + d = x6.length → Inv a b [] ((x6.drop j).map pr) → ∀ K, d + 1 ≤ K → laws_FnTwo.l2 K x6 (j : Int) a.n a.o a.t a.i a.f b.n b.o b.t b.i b.f = some true
  | 0, j, a, b, hj, hi, K, hK => by
    obtain ⟨K, rfl⟩ : ∃ k, K = k + 1 := ⟨K - 1, by omega⟩
    rw [laws_FnTwo.l2, if_neg (by omega)]
    rw [List.drop_eq_nil_of_le (by omega)] at hi
    obtain ⟨g1, g2, g3, g4⟩ := hi.agree
    have hs : impl_HalfSay.f 0 0 0 0 0 1 = some (1, 1, 0, 0, 0, [⟨1, 1⟩], 0) := by
      have e : impl_HalfRight.f 0 0 0 0 0 = some true := right_of (h := ⟨0, 0, 0, 0, 0⟩) Inv.start.ra
      unfold impl_HalfSay.f
      rw [e]
      rfl
    refine bs hs ?_
    refine bs (v := true) ?_ ?_
    · unfold laws_lwSame.f
      rw [if_pos g1, if_pos g2, if_pos g3, g4]
      simp
    · rfl
  | d + 1, j, a, b, hj, hi, K, hK => by
    obtain ⟨K, rfl⟩ : ∃ k, K = k + 1 := ⟨K - 1, by omega⟩
    have hlt : j < x6.length := by omega
    rw [map_drop hlt] at hi
    have hi2 := hi.swap.hear.swap
    have hs0 := hi.qb _ (List.mem_cons_self ..)
    rw [laws_FnTwo.l2, if_pos (by omega), if_pos (by omega), rd32 x6 j hlt]
    refine bs (hear_of a x6[j] hi.ra hs0) ?_
    rw [w64 ((j : Int) + 1) (by omega) (by omega), show ((j : Int) + 1) = ((j + 1 : Nat) : Int) by omega]
    exact last x6 hx d (j + 1) (a.hear (pr x6[j])) b (by omega) hi2 K (by omega)
theorem first_ (x5 x6 : List S32) (hx5 : x5.length ≤ 1000) (hx : x6.length ≤ 1000) : ∀ (d j : Nat) (a b : H5), j + d = x5.length → Inv a b ((x5.drop j).map pr) (x6.map pr) → ∀ K, d + x6.length + 2 ≤ K → laws_FnTwo.l1 K x5 x6 (j : Int) a.n a.o a.t a.i a.f b.n b.o b.t b.i b.f = some true
  | 0, j, a, b, hj, hi, K, hK => by
    obtain ⟨K, rfl⟩ : ∃ k, K = k + 1 := ⟨K - 1, by omega⟩
    rw [laws_FnTwo.l1, if_neg (by omega)]
    rw [List.drop_eq_nil_of_le (by omega)] at hi
    exact last x6 hx x6.length 0 a b (by omega) hi K (by omega)
  | d + 1, j, a, b, hj, hi, K, hK => by
    obtain ⟨K, rfl⟩ : ∃ k, K = k + 1 := ⟨K - 1, by omega⟩
    have hlt : j < x5.length := by omega
    rw [map_drop hlt] at hi
    have hi2 := hi.hear
    have hs0 := hi.qa _ (List.mem_cons_self ..)
    rw [laws_FnTwo.l1, if_pos (by omega), if_pos (by omega), rd32 x5 j hlt]
    refine bs (hear_of b x5[j] hi.rb hs0) ?_
    rw [w64 ((j : Int) + 1) (by omega) (by omega), show ((j : Int) + 1) = ((j + 1 : Nat) : Int) by omega]
    exact first_ x5 x6 hx5 hx d (j + 1) a (b.hear (pr x5[j])) (by omega) hi2 K (by omega)
theorem rounds (l : List Int) (hl : l.length ≤ 1048576) (hw : ∀ x ∈ l, 0 ≤ x ∧ x ≤ 255) : ∀ (d i : Nat) (x5 x6 : List S32) (a b : H5), i + d = 60 → x5.length ≤ i → x6.length ≤ i → Inv a b (x5.map pr) (x6.map pr) →
    ∀ K, d + 200 ≤ K → laws_FnTwo.l0 K l x5 x6 (i : Int) a.n a.o a.t a.i a.f b.n b.o b.t b.i b.f = some true
  | 0, i, x5, x6, a, b, hi, h5, h6, hv, K, hK => by
    obtain ⟨K, rfl⟩ : ∃ k, K = k + 1 := ⟨K - 1, by omega⟩
    rw [laws_FnTwo.l0, if_neg (by omega)]
    exact first_ x5 x6 (by omega) (by omega) x5.length 0 a b (by omega) hv K (by omega)
  | d + 1, i, x5, x6, a, b, hi, h5, h6, hv, K, hK => by
    obtain ⟨K, rfl⟩ : ∃ k, K = k + 1 := ⟨K - 1, by omega⟩
    have e1 : wrap64 (2 * (i : Int)) = ((2 * i : Nat) : Int) := by rw [w64 _ (by omega) (by omega)]; omega
    have e2 : wrap64 (((2 * i : Nat) : Int) + 1) = ((2 * i + 1 : Nat) : Int) := by rw [w64 _ (by omega) (by omega)]; omega
    have e3 : wrap64 ((i : Int) + 1) = ((i + 1 : Nat) : Int) := by rw [w64 _ (by omega) (by omega)]; omega
    obtain ⟨v, hv1, v0, v3⟩ := at4 l hl hw (2 * i) (by omega)
    obtain ⟨u, hu1, u0, u3⟩ := at4 l hl hw (2 * i + 1) (by omega)
    have e4 : wrap64 (1 + v) = 1 + v := w64 _ (by omega) (by omega)
    have ih := rounds l hl hw d (i + 1)
    rw [laws_FnTwo.l0, if_pos (by omega), e1, e2, e3]
    refine bs hv1 ?_
    refine bs hu1 ?_
    rw [e4]
    by_cases c0 : u = 0
    · refine (if_pos c0).trans ?_
      obtain ⟨r, q, c, hs, hq⟩ := say_of a b _ _ hv (1 + v) (by omega) (by omega)
      refine bs hs ?_
      by_cases cc : c = 0
      · obtain ⟨s, rfl, hv2⟩ := hq cc
        refine (if_pos cc).trans ?_
        refine (if_pos (by show x5.length + 1 < 8796093022208; omega)).trans ?_
        exact ih (x5 ++ [s]) x6 r b (by omega) (by simp; omega) (by omega) (by rw [List.map_append]; exact hv2) K (by omega)
      · refine (if_neg cc).trans ?_
        exact ih x5 x6 a b (by omega) (by omega) (by omega) hv K (by omega)
    · refine (if_neg c0).trans ?_
      by_cases c1 : u = 1
      · refine (if_pos c1).trans ?_
        obtain ⟨r, q, c, hs, hq⟩ := say_of b a _ _ hv.swap (1 + v) (by omega) (by omega)
        refine bs hs ?_
        by_cases cc : c = 0
        · obtain ⟨s, rfl, hv2⟩ := hq cc
          refine (if_pos cc).trans ?_
          refine (if_pos (by show x6.length + 1 < 8796093022208; omega)).trans ?_
          exact ih x5 (x6 ++ [s]) a r (by omega) (by omega) (by simp; omega) (by rw [List.map_append]; exact hv2.swap) K (by omega)
        · refine (if_neg cc).trans ?_
          exact ih x5 x6 a b (by omega) (by omega) (by omega) hv K (by omega)
      · refine (if_neg c1).trans ?_
        by_cases c2 : u = 2
        · refine (if_pos c2).trans ?_
          cases x5 with
          | nil =>
            refine (if_neg (by simp)).trans ?_
            exact ih [] x6 a b (by omega) (by simp) (by omega) hv K (by omega)
          | cons s x5 =>
            have hlen : (0 : Int) < ((s :: x5).length : Int) := by simp only [List.length_cons]; omega
            refine (if_pos hlen).trans ?_
            refine (if_pos hlen).trans ?_
            rw [show rd_T32 (s :: x5) 0 = s from rfl]
            have hv' : Inv a b (pr s :: x5.map pr) (x6.map pr) := hv
            refine bs (hear_of b s hv'.rb (hv'.qa _ (List.mem_cons_self ..))) ?_
            refine (if_pos (by omega)).trans ?_
            exact ih x5 x6 a (b.hear (pr s)) (by omega) (by simp only [List.length_cons] at h5; omega) (by omega) hv'.hear K (by omega)
        · refine (if_neg c2).trans ?_
          cases x6 with
          | nil =>
            refine (if_neg (by simp)).trans ?_
            exact ih x5 [] a b (by omega) (by omega) (by simp) hv K (by omega)
          | cons s x6 =>
            have hlen : (0 : Int) < ((s :: x6).length : Int) := by simp only [List.length_cons]; omega
            refine (if_pos hlen).trans ?_
            refine (if_pos hlen).trans ?_
            rw [show rd_T32 (s :: x6) 0 = s from rfl]
            have hv' : Inv b a (pr s :: x6.map pr) (x5.map pr) := hv.swap
            refine bs (hear_of a s hv'.rb (hv'.qa _ (List.mem_cons_self ..))) ?_
            refine (if_pos (by omega)).trans ?_
            exact ih x5 x6 (a.hear (pr s)) b (by omega) (by omega) (by simp only [List.length_cons] at h6; omega) hv'.hear.swap K (by omega)
theorem FnTwo : laws_FnTwo.Pure := by
  intro l h1 h2 hw
  refine ⟨400, ?_⟩
  unfold laws_FnTwo.f
  by_cases c : (l.length : Int) > 1048576
  · rw [if_pos c]
  · rw [if_neg c]
    have hb : ∀ x ∈ l, 0 ≤ x ∧ x ≤ 255 := fun x hx => by
      have := hw x hx
      simp [Lit.wf, IntKind.min, IntKind.max, IntKind.signed, IntKind.bits] at this
      omega
    exact rounds l (by omega) hb 60 0 [] [] ⟨0, 0, 0, 0, 0⟩ ⟨0, 0, 0, 0, 0⟩ (by omega) (by simp) (by simp) Inv.start 400 (by omega)
end Go.Proofs.Ytohohkgeaclgjaa.Pure
