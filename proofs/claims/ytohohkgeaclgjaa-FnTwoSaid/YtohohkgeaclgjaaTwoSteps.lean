/- Plain: what an act and a hearing keep. No program in sight. -/
import Derived.Test.YtohohkgeaclgjaaTwoPlain
namespace Go.Proofs.Ytohohkgeaclgjaa.TwoPlain
structure H5 where
  n : Int
  o : Int
  t : Int
  i : Int
  f : Int
def H5.ok (h : H5) : Prop := 0 ≤ h.n ∧ h.n ≤ 1000000000 ∧ 0 ≤ h.o ∧ h.o ≤ h.n ∧ 0 ≤ h.t ∧ h.t ≤ h.n ∧ (h.o = 0 ∨ h.t = 0) ∧ 0 ≤ h.i ∧ h.i ≤ 1000000000 ∧ 0 ≤ h.f ∧ h.f ≤ 1000000000 ∧ (h.i = 0 ∨ h.f = 0)
def okS (s : Int × Int) : Prop := 1 ≤ s.1 ∧ s.1 ≤ 4 ∧ 1 ≤ s.2 ∧ s.2 ≤ 1000000000
/-- What a half is behind what it hears. -/
def H5.hear (h : H5) (s : Int × Int) : H5 := ⟨h.n, (hs (h.o, h.t) s).1, (hs (h.o, h.t) s).2, (hp (h.i, h.f) s).1, (hp (h.i, h.f) s).2⟩
theorem H5.hear_ok (h : H5) (s : Int × Int) (hh : h.ok) (hs0 : okS s) : (h.hear s).ok := by
  obtain ⟨n, o, t, i, f⟩ := h
  obtain ⟨k, m⟩ := s
  obtain ⟨h1, h2, h3, h4, h5, h6, h7, h8, h9, h10, h11, h12⟩ := hh
  obtain ⟨k1, k2, k3, k4⟩ := hs0
  simp only at h1 h2 h3 h4 h5 h6 h7 h8 h9 h10 h11 h12 k1 k2 k3 k4
  have hk : k = 1 ∨ k = 2 ∨ k = 3 ∨ k = 4 := by omega
  unfold H5.hear H5.ok hs hp
  rcases hk with rfl | rfl | rfl | rfl
  · simp only [if_neg (show ¬ (1 : Int) = 2 by decide), if_neg (show ¬ (1 : Int) = 4 by decide), if_true]
    refine ⟨?_, ?_, ?_, ?_, ?_, ?_, ?_, ?_, ?_, ?_, ?_, ?_⟩ <;> first | omega | exact .inl trivial | exact .inr trivial
  · simp only [if_neg (show ¬ (2 : Int) = 1 by decide), if_neg (show ¬ (2 : Int) = 3 by decide), if_true]
    by_cases e : o = m
    · simp only [if_pos e]; refine ⟨?_, ?_, ?_, ?_, ?_, ?_, ?_, ?_, ?_, ?_, ?_, ?_⟩ <;> first | omega | exact .inl trivial | exact .inr trivial
    · simp only [if_neg e]; refine ⟨?_, ?_, ?_, ?_, ?_, ?_, ?_, ?_, ?_, ?_, ?_, ?_⟩ <;> first | omega | exact .inl trivial | exact .inr trivial
  · simp only [if_neg (show ¬ (3 : Int) = 2 by decide), if_neg (show ¬ (3 : Int) = 4 by decide), if_neg (show ¬ (3 : Int) = 1 by decide), if_true]
    by_cases e1 : i = m <;> by_cases e2 : f = m <;> simp only [e1, e2, if_true, if_false] <;> refine ⟨?_, ?_, ?_, ?_, ?_, ?_, ?_, ?_, ?_, ?_, ?_, ?_⟩ <;> first | omega | exact .inl trivial | exact .inr trivial
  · simp only [if_neg (show ¬ (4 : Int) = 2 by decide), if_neg (show ¬ (4 : Int) = 3 by decide), if_neg (show ¬ (4 : Int) = 1 by decide), if_true]
    by_cases e1 : o = m <;> by_cases e2 : t = m <;> simp only [e1, e2, if_true, if_false] <;> refine ⟨?_, ?_, ?_, ?_, ?_, ?_, ?_, ?_, ?_, ?_, ?_, ?_⟩ <;> first | omega | exact .inl trivial | exact .inr trivial
/-- What is kept: both halves are right, what is under way is right, and both directions agree. -/
structure Inv (a b : H5) (ab ba : List (Int × Int)) : Prop where
  ra : a.ok
  rb : b.ok
  qa : ∀ s ∈ ab, okS s
  qb : ∀ s ∈ ba, okS s
  there : Dir a.n (a.o, a.t) (b.i, b.f) ab ba
  back : Dir b.n (b.o, b.t) (a.i, a.f) ba ab
theorem Inv.swap {a b : H5} {ab ba : List (Int × Int)} (h : Inv a b ab ba) : Inv b a ba ab := ⟨h.rb, h.ra, h.qb, h.qa, h.back, h.there⟩
theorem Inv.start : Inv ⟨0, 0, 0, 0, 0⟩ ⟨0, 0, 0, 0, 0⟩ [] [] :=
  ⟨by unfold H5.ok; simp only; refine ⟨?_, ?_, ?_, ?_, ?_, ?_, ?_, ?_, ?_, ?_, ?_, ?_⟩ <;> first | omega | exact .inl trivial | exact .inr trivial, by unfold H5.ok; simp only; refine ⟨?_, ?_, ?_, ?_, ?_, ?_, ?_, ?_, ?_, ?_, ?_, ?_⟩ <;> first | omega | exact .inl trivial | exact .inr trivial, fun s h => (nomatch h), fun s h => (nomatch h), ⟨rfl, fun s h => (nomatch h), by show (0 : Int) + 0 ≤ 0; omega⟩, ⟨rfl, fun s h => (nomatch h), by show (0 : Int) + 0 ≤ 0; omega⟩⟩
/-- b hears the first thing that a sent. -/
theorem Inv.hear {a b : H5} {s : Int × Int} {ab ba : List (Int × Int)} (h : Inv a b (s :: ab) ba) : Inv a (b.hear s) ab ba := by
  have hs0 := h.qa s (List.mem_cons_self ..)
  obtain ⟨_, _, _, _, _, _, _, b8, _, b10, _, _⟩ := h.rb
  exact ⟨h.ra, H5.hear_ok b s h.rb hs0, fun x hx => h.qa x (List.mem_cons_of_mem _ hx), h.qb, h.there.hearP ⟨b8, b10⟩, h.back.hearS⟩
theorem ne0 {q : List (Int × Int)} (h : ∀ s ∈ q, okS s) : ∀ s ∈ q, s.2 ≠ 0 := fun s hs => by
  obtain ⟨_, _, h3, _⟩ := h s hs
  omega
theorem snoc_ok {q : List (Int × Int)} {x : Int × Int} (h : ∀ s ∈ q, okS s) (hx : okS x) : ∀ s ∈ q ++ [x], okS s := fun s hs => by
  rcases List.mem_append.1 hs with hs | hs
  · exact h s hs
  · rw [List.mem_singleton] at hs; exact hs ▸ hx
/-- a asks. -/
theorem Inv.ask {n i f : Int} {b : H5} {ab ba : List (Int × Int)} (h : Inv ⟨n, 0, 0, i, f⟩ b ab ba) (hn : n < 1000000000) : Inv ⟨n + 1, n + 1, 0, i, f⟩ b (ab ++ [(1, n + 1)]) ba := by
  have ha := h.ra
  unfold H5.ok at ha
  simp only at ha
  exact ⟨by unfold H5.ok; simp only; refine ⟨?_, ?_, ?_, ?_, ?_, ?_, ?_, ?_, ?_, ?_, ?_, ?_⟩ <;> first | omega | exact .inl trivial | exact .inr trivial, h.rb, snoc_ok h.qa (by unfold okS; simp only; omega), h.qb, h.there.ask (ne0 h.qb), h.back.back_ (.inl rfl)⟩
/-- a leaves. -/
theorem Inv.leave {n o t i f : Int} {b : H5} {ab ba : List (Int × Int)} (h : Inv ⟨n, o, t, i, f⟩ b ab ba) (hm : o + t ≠ 0) : Inv ⟨n, 0, 0, i, f⟩ b (ab ++ [(3, o + t)]) ba := by
  have ha := h.ra
  unfold H5.ok at ha
  simp only at ha
  exact ⟨by unfold H5.ok; simp only; refine ⟨?_, ?_, ?_, ?_, ?_, ?_, ?_, ?_, ?_, ?_, ?_, ?_⟩ <;> first | omega | exact .inl trivial | exact .inr trivial, h.rb, snoc_ok h.qa (by unfold okS; simp only; omega), h.qb, h.there.leave (ne0 h.qb) (by simp only; omega) hm, h.back.back_ (.inr rfl)⟩
/-- a grants. -/
theorem Inv.grant {n o t i f : Int} {b : H5} {ab ba : List (Int × Int)} (h : Inv ⟨n, o, t, i, f⟩ b ab ba) (hm : i ≠ 0) : Inv ⟨n, o, t, 0, i⟩ b (ab ++ [(2, i)]) ba := by
  have ha := h.ra
  unfold H5.ok at ha
  simp only at ha
  exact ⟨by unfold H5.ok; simp only; refine ⟨?_, ?_, ?_, ?_, ?_, ?_, ?_, ?_, ?_, ?_, ?_, ?_⟩ <;> first | omega | exact .inl trivial | exact .inr trivial, h.rb, snoc_ok h.qa (by unfold okS; simp only; omega), h.qb, h.there.there (.inl rfl), h.back.grant (by simp only; omega) hm⟩
/-- a denies. -/
theorem Inv.deny {n o t i f : Int} {b : H5} {ab ba : List (Int × Int)} (h : Inv ⟨n, o, t, i, f⟩ b ab ba) (hm : i + f ≠ 0) : Inv ⟨n, o, t, 0, 0⟩ b (ab ++ [(4, i + f)]) ba := by
  have ha := h.ra
  unfold H5.ok at ha
  simp only at ha
  exact ⟨by unfold H5.ok; simp only; refine ⟨?_, ?_, ?_, ?_, ?_, ?_, ?_, ?_, ?_, ?_, ?_, ?_⟩ <;> first | omega | exact .inl trivial | exact .inr trivial, h.rb, snoc_ok h.qa (by unfold okS; simp only; omega), h.qb, h.there.there (.inr rfl), h.back.deny (by simp only; omega) (by simp only; omega) hm⟩
/-- When nothing is under way, both agree. -/
theorem Inv.agree {a b : H5} (h : Inv a b [] []) : a.t = b.f ∧ a.o = b.i ∧ b.t = a.f ∧ b.o = a.i := by
  have h1 : (a.o, a.t) = (b.i, b.f) := h.there.same
  have h2 : (b.o, b.t) = (a.i, a.f) := h.back.same
  simp only [Prod.mk.injEq] at h1 h2
  exact ⟨h1.2, h1.1, h2.2, h2.1⟩
end Go.Proofs.Ytohohkgeaclgjaa.TwoPlain
