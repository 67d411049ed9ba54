/- Plain: two halves that act and hear each other in order agree when nothing is under way. No program in sight. -/
namespace Go.Proofs.Ytohohkgeaclgjaa.TwoPlain

/-- What hears as a giver: (asked, granted). -/
def hp (p s : Int × Int) : Int × Int := if s.1 = 1 then (s.2, 0) else if s.1 = 3 then (if p.1 = s.2 then 0 else p.1, if p.2 = s.2 then 0 else p.2) else p
/-- What hears as an asker: (asked, granted). -/
def hs (p s : Int × Int) : Int × Int := if s.1 = 2 then (if p.1 = s.2 then (0, s.2) else p) else if s.1 = 4 then (if p.1 = s.2 then 0 else p.1, if p.2 = s.2 then 0 else p.2) else p
/-- The numbers that are asked for rise, from above a number on, and none is above another one. -/
def rise : Int → List (Int × Int) → Int → Prop
  | a, [], n => a ≤ n
  | a, s :: q, n => if s.1 = 1 then a < s.2 ∧ rise s.2 q n else rise a q n
theorem rise_le (q : List (Int × Int)) : ∀ {a n : Int}, rise a q n → a ≤ n := by
  induction q with
  | nil => intro a n h; exact h
  | cons s q ih =>
    intro a n h
    unfold rise at h
    split at h
    · have := ih h.2
      omega
    · exact ih h
theorem rise_low (q : List (Int × Int)) : ∀ {a b n : Int}, rise a q n → b ≤ a → rise b q n := by
  induction q with
  | nil => intro a b n h hb; exact Int.le_trans hb h
  | cons s q ih =>
    intro a b n h hb
    unfold rise at h ⊢
    split
    · rename_i e
      rw [if_pos e] at h
      exact ⟨by omega, h.2⟩
    · rename_i e
      rw [if_neg e] at h
      exact ih h hb
theorem rise_high (q : List (Int × Int)) : ∀ {a n m : Int}, rise a q n → n ≤ m → rise a q m := by
  induction q with
  | nil => intro a n m h hb; exact Int.le_trans h hb
  | cons s q ih =>
    intro a n m h hb
    unfold rise at h ⊢
    split
    · rename_i e
      rw [if_pos e] at h
      exact ⟨h.1, ih h.2 hb⟩
    · rename_i e
      rw [if_neg e] at h
      exact ih h hb
theorem rise_snoc (q : List (Int × Int)) (s : Int × Int) (hs : s.1 ≠ 1) : ∀ {a n : Int}, rise a q n → rise a (q ++ [s]) n := by
  induction q with
  | nil =>
    intro a n h
    show rise a [s] n
    unfold rise
    rw [if_neg hs]
    exact h
  | cons x q ih =>
    intro a n h
    show rise a (x :: (q ++ [s])) n
    unfold rise at h ⊢
    split
    · rename_i e
      rw [if_pos e] at h
      exact ⟨h.1, ih h.2⟩
    · rename_i e
      rw [if_neg e] at h
      exact ih h
theorem rise_ask (q : List (Int × Int)) (m : Int) : ∀ {a n : Int}, rise a q n → n < m → rise a (q ++ [(1, m)]) m := by
  induction q with
  | nil =>
    intro a n h hm
    show rise a [(1, m)] m
    unfold rise
    rw [if_pos rfl]
    exact ⟨by have : a ≤ n := h; show a < m; omega, Int.le_refl _⟩
  | cons x q ih =>
    intro a n h hm
    show rise a (x :: (q ++ [(1, m)])) m
    unfold rise at h ⊢
    split
    · rename_i e
      rw [if_pos e] at h
      exact ⟨h.1, ih h.2 hm⟩
    · rename_i e
      rw [if_neg e] at h
      exact ih h hm
theorem rise_ne (q : List (Int × Int)) : ∀ {a n : Int}, rise a q n → ∀ s ∈ q, s.1 = 1 → a < s.2 := by
  induction q with
  | nil => intro a n _ s hs; cases hs
  | cons x q ih =>
    intro a n h s hs e
    unfold rise at h
    rcases List.mem_cons.1 hs with rfl | hs
    · rw [if_pos e] at h
      exact h.1
    · split at h
      · have := ih h.2 s hs e
        omega
      · exact ih h s hs e

/-- One direction: n the asker's count, st what it has, pt what the giver has, q1 the way there, q2 the way back. -/
structure Dir (n : Int) (st pt : Int × Int) (q1 q2 : List (Int × Int)) : Prop where
  same : q2.foldl hs st = q1.foldl hp pt
  back : ∀ s ∈ q2, (s.1 = 2 ∨ s.1 = 4) → s.2 ≤ n
  up : rise (pt.1 + pt.2) q1 n

theorem hs_far (q : List (Int × Int)) (a : Int) (h : ∀ s ∈ q, (s.1 = 2 ∨ s.1 = 4) → s.2 ≠ a) (h0 : ∀ s ∈ q, s.2 ≠ 0) : q.foldl hs (a, 0) = (a, 0) := by
  induction q with
  | nil => rfl
  | cons s q ih =>
    have h1 := h s List.mem_cons_self
    have h2 := h0 s List.mem_cons_self
    have e : hs (a, 0) s = (a, 0) := by
      unfold hs
      split
      · rename_i e
        have := h1 (.inl e)
        simp only
        rw [if_neg (fun x => this x.symm)]
      · split
        · rename_i e
          have := h1 (.inr e)
          simp only
          rw [if_neg (fun x => this x.symm)]
          simp
        · rfl
    rw [List.foldl_cons, e]
    exact ih (fun s hs => h s (List.mem_cons_of_mem _ hs)) (fun s hs => h0 s (List.mem_cons_of_mem _ hs))
def near (m : Int) (p : Int × Int) : Prop := p = (m, 0) ∨ p = (0, m) ∨ p = (0, 0)
theorem near_step (m : Int) (p s : Int × Int) (h2 : s.2 ≠ 0) (h : near m p) : near m (hs p s) := by
  obtain ⟨k, N⟩ := s
  have h3 : ¬ (0 = N) := fun x => h2 x.symm
  rcases h with rfl | rfl | rfl <;> unfold hs near <;> by_cases k2 : k = 2 <;> by_cases k4 : k = 4 <;> by_cases e : m = N <;> simp_all
theorem hs_near (q : List (Int × Int)) (m : Int) (h0 : ∀ s ∈ q, s.2 ≠ 0) : ∀ p, near m p → near m (q.foldl hs p) := by
  induction q with
  | nil => intro p h; exact h
  | cons s q ih =>
    intro p h
    rw [List.foldl_cons]
    exact ih (fun s hs => h0 s (List.mem_cons_of_mem _ hs)) _ (near_step m p s (h0 s List.mem_cons_self) h)
/-- The giver grants. -/
def grRel (a : Int) (p p' : Int × Int) : Prop := (p = (a, 0) ∧ p' = (0, a)) ∨ (p = p' ∧ p.1 ≠ a)
theorem gr_step (q : List (Int × Int)) (a : Int) (ha : a ≠ 0) (h : ∀ s ∈ q, s.1 = 1 → s.2 ≠ a) : ∀ p p', grRel a p p' → grRel a (q.foldl hp p) (q.foldl hp p') := by
  induction q with
  | nil => intro p p' r; exact r
  | cons s q ih =>
    intro p p' r
    rw [List.foldl_cons, List.foldl_cons]
    refine ih (fun s hs => h s (List.mem_cons_of_mem _ hs)) _ _ ?_
    have h1 := h s List.mem_cons_self
    unfold hp grRel at *
    split
    · rename_i e
      exact .inr ⟨rfl, h1 e⟩
    · split
      · rcases r with ⟨rfl, rfl⟩ | ⟨rfl, hne⟩
        · simp only [ite_self]
          by_cases e : a = s.2
          · rw [if_pos e]; exact .inr ⟨rfl, fun x => ha x.symm⟩
          · rw [if_neg e]; exact .inl ⟨rfl, rfl⟩
        · refine .inr ⟨rfl, ?_⟩
          simp only
          split
          · exact fun x => ha x.symm
          · exact hne
      · exact r
/-- The giver denies. -/
def dnRel (m : Int) (p p' : Int × Int) : Prop := ((p = (m, 0) ∨ p = (0, m)) ∧ p' = (0, 0)) ∨ (p = p' ∧ p.1 ≠ m ∧ p.2 ≠ m)
theorem dn_step (q : List (Int × Int)) (m : Int) (hm : m ≠ 0) (h : ∀ s ∈ q, s.1 = 1 → s.2 ≠ m) : ∀ p p', dnRel m p p' → dnRel m (q.foldl hp p) (q.foldl hp p') := by
  induction q with
  | nil => intro p p' r; exact r
  | cons s q ih =>
    intro p p' r
    rw [List.foldl_cons, List.foldl_cons]
    refine ih (fun s hs => h s (List.mem_cons_of_mem _ hs)) _ _ ?_
    have h1 := h s List.mem_cons_self
    have hm0 : ¬ (0 = m) := fun x => hm x.symm
    unfold hp dnRel at *
    split
    · rename_i e
      exact .inr ⟨rfl, h1 e, hm0⟩
    · split
      · rcases r with ⟨rfl | rfl, rfl⟩ | ⟨rfl, hne, hne2⟩
        · simp only [ite_self]
          by_cases e : m = s.2
          · rw [if_pos e]; exact .inr ⟨rfl, hm0, hm0⟩
          · rw [if_neg e]; exact .inl ⟨.inl rfl, by trivial⟩
        · simp only [ite_self]
          by_cases e : m = s.2
          · rw [if_pos e]; exact .inr ⟨rfl, hm0, hm0⟩
          · rw [if_neg e]; exact .inl ⟨.inr rfl, by trivial⟩
        · refine .inr ⟨rfl, ?_, ?_⟩ <;> simp only <;> split <;> assumption
      · exact r
variable {n : Int} {st pt : Int × Int} {q1 q2 : List (Int × Int)}
theorem Dir.ask (d : Dir n (0, 0) pt q1 q2) (h0 : ∀ s ∈ q2, s.2 ≠ 0) : Dir (n + 1) (n + 1, 0) pt (q1 ++ [(1, n + 1)]) q2 := by
  refine ⟨?_, fun s hs hk => by have := d.back s hs hk; omega, rise_ask q1 (n + 1) d.up (by omega)⟩
  rw [List.foldl_append, hs_far q2 (n + 1) (fun s hs hk => by have := d.back s hs hk; omega) h0]
  rfl
theorem Dir.leave (d : Dir n st pt q1 q2) (h0 : ∀ s ∈ q2, s.2 ≠ 0) (h1 : st.1 = 0 ∨ st.2 = 0) (hm : st.1 + st.2 ≠ 0) : Dir n (0, 0) pt (q1 ++ [(3, st.1 + st.2)]) q2 := by
  refine ⟨?_, d.back, rise_snoc q1 _ (show (3 : Int) ≠ 1 by decide) d.up⟩
  rw [List.foldl_append, ← d.same]
  have e : q2.foldl hs (0, 0) = (0, 0) := hs_far q2 0 (fun s hs _ => h0 s hs) h0
  rw [e]
  obtain ⟨x, y⟩ := st
  simp only at h1 hm ⊢
  have hn : near (x + y) (q2.foldl hs (x, y)) := by
    refine hs_near q2 (x + y) h0 _ ?_
    rcases h1 with rfl | rfl
    · exact .inr (.inl (by simp))
    · exact .inl (by simp)
  have hm0 : ¬ (0 = x + y) := fun z => hm z.symm
  rcases hn with h | h | h <;> rw [h] <;> simp [hp, hm0]
theorem Dir.grant (d : Dir n st pt q1 q2) (h1 : pt.1 = 0 ∨ pt.2 = 0) (hm : pt.1 ≠ 0) : Dir n st (0, pt.1) q1 (q2 ++ [(2, pt.1)]) := by
  obtain ⟨a, b⟩ := pt
  simp only at h1 hm ⊢
  have hb : b = 0 := by rcases h1 with h | h <;> omega
  subst hb
  have hup : rise (a + 0) q1 n := d.up
  have hne := rise_ne q1 hup
  refine ⟨?_, fun s hs hk => ?_, ?_⟩
  · rw [List.foldl_append, d.same]
    have r := gr_step q1 a hm (fun s hs e => by have := hne s hs e; omega) (a, 0) (0, a) (.inl ⟨rfl, rfl⟩)
    rcases r with ⟨e1, e2⟩ | ⟨e1, e2⟩
    · rw [e1, e2]
      simp [hs]
    · rw [← e1]
      show hs (q1.foldl hp (a, 0)) (2, a) = _
      unfold hs
      rw [if_pos rfl, if_neg e2]
  · rcases List.mem_append.1 hs with hs | hs
    · exact d.back s hs hk
    · rw [List.mem_singleton] at hs
      subst hs
      have := rise_le q1 hup
      show a ≤ n
      omega
  · exact rise_low q1 hup (by show 0 + a ≤ a + 0; omega)
theorem Dir.deny (d : Dir n st pt q1 q2) (h1 : pt.1 = 0 ∨ pt.2 = 0) (hp0 : 0 ≤ pt.1 ∧ 0 ≤ pt.2) (hm : pt.1 + pt.2 ≠ 0) : Dir n st (0, 0) q1 (q2 ++ [(4, pt.1 + pt.2)]) := by
  obtain ⟨a, b⟩ := pt
  simp only at h1 hm hp0 ⊢
  have hup : rise (a + b) q1 n := d.up
  have hne := rise_ne q1 hup
  refine ⟨?_, fun s hs hk => ?_, ?_⟩
  · rw [List.foldl_append, d.same]
    have r := dn_step q1 (a + b) hm (fun s hs e => by have := hne s hs e; omega) (a, b) (0, 0) (.inl ⟨by
      rcases h1 with rfl | rfl
      · exact .inr (by simp)
      · exact .inl (by simp), rfl⟩)
    have hm0 : ¬ (0 = a + b) := fun z => hm z.symm
    rcases r with ⟨e1 | e1, e2⟩ | ⟨e1, e2, e3⟩
    · rw [e1, e2]
      simp [hs, hm0]
    · rw [e1, e2]
      simp [hs, hm0]
    · rw [← e1]
      show hs (q1.foldl hp (a, b)) (4, a + b) = _
      unfold hs
      rw [if_neg (show ¬ (4 : Int) = 2 by decide), if_pos rfl]
      simp only
      rw [if_neg e2, if_neg e3]
  · rcases List.mem_append.1 hs with hs | hs
    · exact d.back s hs hk
    · rw [List.mem_singleton] at hs
      subst hs
      exact rise_le q1 hup
  · exact rise_low q1 hup (by show 0 + 0 ≤ a + b; omega)
theorem Dir.hearP {s : Int × Int} (d : Dir n st pt (s :: q1) q2) (hp0 : 0 ≤ pt.1 ∧ 0 ≤ pt.2) : Dir n st (hp pt s) q1 q2 := by
  refine ⟨d.same, d.back, ?_⟩
  have hup : rise (pt.1 + pt.2) (s :: q1) n := d.up
  unfold rise at hup
  unfold hp
  by_cases e : s.1 = 1
  · rw [if_pos e] at hup ⊢
    exact rise_low q1 hup.2 (by show s.2 + 0 ≤ s.2; omega)
  · rw [if_neg e] at hup ⊢
    split
    · refine rise_low q1 hup ?_
      simp only
      split <;> split <;> omega
    · exact hup
theorem Dir.hearS {s : Int × Int} (d : Dir n st pt q1 (s :: q2)) : Dir n (hs st s) pt q1 q2 := ⟨d.same, fun x hx => d.back x (List.mem_cons_of_mem _ hx), d.up⟩
/-- What the other direction puts on the way there. -/
theorem Dir.there {s : Int × Int} (d : Dir n st pt q1 q2) (h : s.1 = 2 ∨ s.1 = 4) : Dir n st pt (q1 ++ [s]) q2 := by
  refine ⟨?_, d.back, rise_snoc q1 s (by rcases h with h | h <;> rw [h] <;> decide) d.up⟩
  rw [List.foldl_append, d.same]
  show _ = hp (q1.foldl hp pt) s
  unfold hp
  rw [if_neg (by rcases h with h | h <;> rw [h] <;> decide), if_neg (by rcases h with h | h <;> rw [h] <;> decide)]
/-- What the other direction puts on the way back. -/
theorem Dir.back_ {s : Int × Int} (d : Dir n st pt q1 q2) (h : s.1 = 1 ∨ s.1 = 3) : Dir n st pt q1 (q2 ++ [s]) := by
  refine ⟨?_, fun x hx hk => ?_, d.up⟩
  · rw [List.foldl_append, d.same]
    show hs (q1.foldl hp pt) s = _
    unfold hs
    rw [if_neg (by rcases h with h | h <;> rw [h] <;> decide), if_neg (by rcases h with h | h <;> rw [h] <;> decide)]
  · rcases List.mem_append.1 hx with hx | hx
    · exact d.back x hx hk
    · rw [List.mem_singleton] at hx
      subst hx
      omega
end Go.Proofs.Ytohohkgeaclgjaa.TwoPlain
