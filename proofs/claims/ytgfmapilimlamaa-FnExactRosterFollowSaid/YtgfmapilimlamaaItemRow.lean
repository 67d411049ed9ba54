import Derived.Test.YtgfmapilimlamaaQFnExactRosterFollowx0
import Derived.Deep.RegionLaw
import Derived.Lib.SliceRun
set_option linter.unusedVariables false
set_option linter.unusedSimpArgs false
namespace Go.Proofs.Ytgfmapilimlamaa.QFnExactRosterFollow
open Go.RowKit Go.Proofs.YtgfmapilimlamaaW.PrintWords Go.Proofs.YtgfmapilimlamaaW.PrintLast Go.Proofs.YtgfmapilimlamaaW.PrintMore

/-! ### the cells of a row of items -/
def cells5 (x : S33) : List Value := [.string x.f0, .string x.f1, .string x.f2, .int .i64 x.f3, .bool x.f4]
def flat : List S33 → List Value
  | [] => []
  | x :: r => cells5 x ++ flat r
theorem flat_len : ∀ xs, (flat xs).length = xs.length * 5
  | [] => rfl
  | x :: r => by rw [flat, List.length_append, flat_len r, List.length_cons]; show 5 + _ = _; omega
theorem flat_append : ∀ xs ys, flat (xs ++ ys) = flat xs ++ flat ys
  | [], ys => rfl
  | x :: r, ys => by rw [List.cons_append, flat, flat_append r ys, flat, List.append_assoc]
theorem flat_take : ∀ (m : Nat) (xs : List S33), flat (xs.take m) = (flat xs).take (m * 5)
  | 0, xs => by simp [flat]
  | m + 1, [] => by simp [flat]
  | m + 1, x :: r => by
    have : (cells5 x).length = 5 := rfl
    rw [List.take_succ_cons, flat, flat, flat_take m r, List.take_append, List.take_of_length_le (i := (m + 1) * 5) (l := cells5 x) (by rw [this]; omega), this, show (m + 1) * 5 - 5 = m * 5 by omega]
theorem flat_drop (m : Nat) (xs : List S33) : flat (xs.drop m) = (flat xs).drop (m * 5) := by
  have h := flat_append (xs.take m) (xs.drop m)
  rw [List.take_append_drop] at h
  rcases Nat.lt_or_ge xs.length m with hm | hm
  · have h1 : xs.drop m = [] := List.drop_eq_nil_of_le (by omega)
    have h2 : (flat xs).drop (m * 5) = [] := List.drop_eq_nil_of_le (by rw [flat_len]; omega)
    rw [h1, h2]; rfl
  · have h1 : (flat (xs.take m)).length = m * 5 := by rw [flat_len, List.length_take, Nat.min_eq_left hm]
    rw [h]
    exact (List.drop_left' h1).symm
theorem flat_one (xs : List S33) : ∀ v ∈ flat xs, v.oneCell' = true := by
  induction xs with
  | nil => intro v hv; cases hv
  | cons x r ih =>
    intro v hv
    rw [flat, List.mem_append] at hv
    rcases hv with hv | hv
    · simp only [cells5, List.mem_cons, List.not_mem_nil, or_false] at hv
      rcases hv with rfl | rfl | rfl | rfl | rfl <;> rfl
    · exact ih v hv
theorem flat_of_reps {R : S33 → List Value → Prop} (hR : ∀ x c, R x c → c = cells5 x) : ∀ (xs : List S33) (cs : List Value), Reps R 5 xs cs → cs = flat xs
  | [], cs, h => by have := h.1; simp at this; exact this
  | x :: r, cs, h => by
    have h0 := hR _ _ (h.2 0 x rfl)
    rw [Nat.zero_mul, List.drop_zero] at h0
    have h1 := flat_of_reps hR r (cs.drop 5) ⟨by rw [List.length_drop, h.1, List.length_cons]; omega, fun j p hj => by
      have := h.2 (j + 1) p (by simpa using hj)
      rwa [List.drop_drop, show 5 + j * 5 = (j + 1) * 5 by omega]⟩
    rw [flat, ← h0, ← h1, List.take_append_drop]
theorem reps_flat {R : S33 → List Value → Prop} (hR : ∀ x, R x (cells5 x)) : ∀ (xs : List S33), Reps R 5 xs (flat xs)
  | [] => Reps.none _ _
  | x :: r => Reps.front (hR x) rfl (reps_flat hR r) rfl

theorem item_own {w : World} {base : Nat} {ok : Nat → Prop} {v : Value} {xs : List S33} (h : Kd.R k33 33 w base ok v xs) : w.ownsRow base 33 5 v xs.length (flat xs) := by
  obtain ⟨_, inner, ho, hr⟩ := h
  have : inner = flat xs := flat_of_reps (fun x c hc => k33_openM hc) xs inner hr
  exact this ▸ ho
theorem item_R {w : World} {base : Nat} {ok : Nat → Prop} {v : Value} {xs : List S33} (hok : ∀ k, v.ownBlock = some k → ok k) (ho : w.ownsRow base 33 5 v xs.length (flat xs)) : Kd.R k33 33 w base ok v xs :=
  ⟨hok, flat xs, ho, reps_flat (fun x => k33_mkM _ _ _ x) xs⟩
/-- A row of one's own, in full: its block, its cells. -/
theorem item_form {w : World} {base : Nat} {ok : Nat → Prop} {g n c : Nat} {xs : List S33} (h : Kd.R k33 33 w base ok (.slice (some ⟨g, 0, none⟩) n c) xs) :
    n = xs.length ∧ base ≤ g ∧ n ≤ c ∧ c ≤ maxLen ∧ ok g ∧ ∃ cur, w.heap[g]? = some (.cells cur 33 (0, 0)) ∧ cur.size = c * 5 ∧ cur.toList.take (n * 5) = flat xs := by
  have ho := item_own h
  have hok := h.1 g rfl
  rcases ho.2 with ⟨hv, _⟩ | ⟨g', cap', cur, hv, hb, hh, hnc, hcm, hcs, htake⟩
  · cases hv
  · injection hv with ha hn hc
    injection ha with ha
    injection ha with hg
    subst hg; subst hc; subst hn
    exact ⟨rfl, hb, hnc, hcm, hok, cur, hh, hcs, htake⟩
theorem item_mk {w : World} {base : Nat} {ok : Nat → Prop} {g n c : Nat} {xs : List S33} {cur : Array Value} (hn : n = xs.length) (hb : base ≤ g) (hnc : n ≤ c) (hcm : c ≤ maxLen) (hok : ok g) (hh : w.heap[g]? = some (.cells cur 33 (0, 0))) (hcs : cur.size = c * 5) (ht : cur.toList.take (n * 5) = flat xs) :
    Kd.R k33 33 w base ok (.slice (some ⟨g, 0, none⟩) n c) xs := by
  subst hn
  exact item_R (fun k hk => by simp only [Value.ownBlock, Option.some.injEq] at hk; subst hk; exact hok) ⟨flat_len xs, .inr ⟨g, c, cur, rfl, hb, hh, hnc, hcm, hcs, ht⟩⟩

/-- Cells set in one's own row, at or beyond its end: the row is as it was. -/
theorem item_spare {w : World} {base : Nat} {ok : Nat → Prop} {g n c o : Nat} {xs : List S33} (h : Kd.R k33 33 w base ok (.slice (some ⟨g, 0, none⟩) n c) xs) (news : List Value) (ho : n * 5 ≤ o) (hf : o + news.length ≤ c * 5) :
    Kd.R k33 33 (w.setCells g o news) base ok (.slice (some ⟨g, 0, none⟩) n c) xs ∧ w.grownBy (w.setCells g o news) (some g) := by
  obtain ⟨hn, hb, hnc, hcm, hok, cur, hh, hcs, ht⟩ := item_form h
  obtain ⟨cur', h3, h4, h5⟩ := setCells_row news o w cur hh (by omega)
  obtain ⟨s1, s2, s3, s4⟩ := setCells_same g news o w
  refine ⟨item_mk hn hb hnc hcm hok h3 (by rw [h4, hcs]) ?_, ⟨s1, s2, s3, by rw [s4]; exact Nat.le_refl _, fun k' _ hk' => setCells_far news _ k' (fun he => hk' (by rw [he]))⟩⟩
  rw [h5, List.append_assoc, List.take_append_of_le_length (by rw [List.length_take, Array.length_toList]; omega), List.take_take, Nat.min_eq_left ho, ht]

/-- 'clear' of one item. -/
theorem run_clear_item (w : World) (ty : TypeId) (b o c : Nat) (hc : ∀ j, j < 5 → (w.cell? ⟨b, o + j, none⟩).isSome = true) (hf : ∀ j, j < 5 → w.frozen? ⟨b, o + j, none⟩ = false) :
    (Builtin.clear_ #[24] ty #[.slice (some ⟨b, o, none⟩) 1 c]).run Try.prog w = .ok (.tuple #[]) (w.setCells b o (cells5 z33)) := by
  obtain ⟨i0, hi0, hz0, hzs, hzb⟩ := info_parts info33
  have hzc : (Builtin.zeroCells (Value.agg #[(.string ⟨#[]⟩), (.string ⟨#[]⟩), (.string ⟨#[]⟩), (.int .i64 0), (.bool false)]).cells 1).toList = cells5 z33 := by simp [Builtin.zeroCells, Value.cells, cells5, z33]; rfl
  have hst := run_storeCells_cells (P := Try.prog) b o (cells5 z33) 0 w (by intro j hj; rw [Nat.add_zero]; exact hc j hj) (by intro j hj; rw [Nat.add_zero]; exact hf j hj) (by intro v hv; exact flat_one [z33] v (by rw [flat]; simp [flat, hv]))
  simp only [Nat.add_zero] at hst
  simp [Builtin.clear_, run_underlying Try.underlying24, zeroValue, typeInfo, hi0, hz0, hzc, hst]

/-! ### slices.Delete(s, k, k + 1) at items -/
theorem sz33 : (Try.prog.info? 33).map (·.size) = some 5 := by
  obtain ⟨i0, hi0, _, hzs, _⟩ := info_parts info33
  rw [hi0]; exact congrArg some hzs
theorem clear_last {w : World} {base : Nat} {ok : Nat → Prop} {g n c : Nat} {xs : List S33} (h : Kd.R k33 33 w base ok (.slice (some ⟨g, 0, none⟩) (n - 1) c) xs) (hn : n ≤ c) (h0 : 0 < n) (ty : TypeId) (d : Nat) :
    (Builtin.clear_ #[24] ty #[.slice (some ⟨g, (n - 1) * 5, none⟩) (n - (n - 1)) d]).run Try.prog w = .ok (.tuple #[]) (w.setCells g ((n - 1) * 5) (cells5 z33)) := by
  obtain ⟨_, _, _, _, _, cur, hh, hcs, _⟩ := item_form h
  rw [show n - (n - 1) = 1 by omega]
  refine run_clear_item w ty g ((n - 1) * 5) d (fun j hj => ?_) (fun j hj => blk_frozen hh _)
  rw [cell_of_row w g _ cur 33 (0, 0) hh, Array.getElem?_eq_getElem (by omega)]
  rfl
set_option maxHeartbeats 4000000 in
set_option maxRecDepth 1000000 in
theorem delete_ok (P0_ : Nat → Prop) (u9000_ : Value) (l0 : List S33) (k : Nat) (w0 w : World) (hB : Below w0.heap.size w0 w) (ho0 : Kd.R k33 33 w w0.heap.size P0_ u9000_ l0) (hk : k < l0.length) :
    Calls Try.prog 18 #[u9000_, .int .i64 (k : Int), .int .i64 ((k + 1 : Nat) : Int)] w fun e w' => ∃ v0_ : Value, e = .returned v0_ ∧ Kd.R k33 33 w' w0.heap.size (fun k_ => (P0_ k_ ∨ w.heap.size ≤ k_)) v0_ (l0.eraseIdx k) ∧ Below w0.heap.size w0 w' ∧ Kept w w' (fun k_ => P0_ k_) := by
  obtain ⟨g, c, rfl, hbg, hgw, cells, hcells⟩ := Kd.R_form ho0 (by omega)
  obtain ⟨_, _, hnc, hcm, hok, _⟩ := item_form ho0
  have hcm' : c ≤ 9223372036854775807 := by unfold maxLen at hcm; omega
  have HO := Aside0.mk ho0
  have HB := Aside0.mk hB
  have hk1 : (k : Int) ≤ (k : Int) + 1 := by omega
  have hk2 : (k : Int) + 1 ≤ (l0.length : Int) := by omega
  have hk3 : (l0.length : Int) ≤ (c : Int) := by omega
  have hk4 : ¬ ((k : Int) = (k : Int) + 1) := by omega
  have hk5 : (0 : Int) ≤ (k : Int) + 1 := by omega
  obtain ⟨i0, hi0, _, hsz, _⟩ := info_parts info33
  have hcut := cut_from (P := Try.prog) 24 33 .i64 Try.underlying24 hi0 5 hsz (some (⟨g, 0, none⟩ : Addr)) l0.length c ((k : Int) + 1) hk5 hk2
  rw [show ((k : Int) + 1).toNat = k + 1 by omega] at hcut
  obtain ⟨A, hA⟩ : ∃ A : Option Addr, A = if c = k + 1 then some (⟨g, 0, none⟩ : Addr) else (some (⟨g, 0, none⟩ : Addr)).map (·.add ((k + 1) * 5)) := ⟨_, rfl⟩
  rw [← hA] at hcut
  clear hi0 hsz
  have hk6 : (k : Int) ≤ (c : Int) := by omega
  have HA := Aside0.mk hA
  clear hA
  clear ho0 hB hcells
  go_enter Try.func18, Try.ntmps18
  go_wp2_with fail
  go_region_law (go_loud (refine Kd.R_delete_step k33 (w0 := w0) w0.heap.size (by rfl) (.tmp 22) (.tmp 25) 24 33 rfl Try.underlying24 sz33 (g := g) (n := l0.length) (c := c) (k := k) (m := l0.length - (k + 1)) (c2 := c - (k + 1)) (A := A) (by simp [Act.eval, Act.put]) (by simp [Act.eval, Act.put]) HA.out rfl (Kd.R_drew HO.out) hk (below_drew HB.out) (below_size (below_drew HB.out)) ?_); intro w1 h1 h2 h3; have HO1 := Aside0.mk h1; have HB1 := Aside0.mk h2; have HG1 := Aside0.mk h3; have hcl := clear_last h1 hnc (by omega); clear h1 h2 h3)
  have hj1 : ¬ (c = l0.length - 1) := by omega
  have hj2 : ((l0.length - 1 : Nat) : Int) ≤ (l0.length : Int) := by omega
  have hj3 : l0.length - 1 ≤ c := by omega
  have hj4 : l0.length - 1 ≤ l0.length := by omega
  clear HA
  go_wp2
  go_ret
  obtain ⟨hR2, hG2⟩ := item_spare HO1.out (cells5 z33) (o := (l0.length - 1) * 5) (Nat.le_refl _) (by show _ + 5 ≤ _; omega)
  refine ⟨.slice (some ⟨g, 0, none⟩) (l0.length - 1) _, rfl, Kd.R_mono hR2 (fun _ hk => .inl hk), HB1.out.grown hG2 (below_size HB1.out) (fun k hk => by injection hk with hk; subst hk; exact hbg), ?_⟩
  have hG1 := HG1.out
  refine ⟨Nat.le_trans hG1.size hG2.size, fun i hi hn => ?_⟩
  have hne : some i ≠ some g := fun e => by injection e with e; exact hn (e ▸ hok)
  exact (hG2.block i (Nat.lt_of_lt_of_le hi hG1.size) hne).trans (hG1.block i hi hne)

end Go.Proofs.Ytgfmapilimlamaa.QFnExactRosterFollow
