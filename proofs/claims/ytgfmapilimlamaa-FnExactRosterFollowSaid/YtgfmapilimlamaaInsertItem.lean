import Derived.Test.YtgfmapilimlamaaItemRow
import Derived.Lib.AppendZerosOnto
import Derived.Lib.Overlaps
import Derived.Lib.JoinLaws
import Derived.Laws.Externs
import Derived.Laws.NewBlocks
set_option linter.unusedVariables false
set_option linter.unusedSimpArgs false
namespace Go.Proofs.Ytgfmapilimlamaa.QFnExactRosterFollow
open Go.RowKit Go.Proofs.YtgfmapilimlamaaW.PrintWords Go.Proofs.YtgfmapilimlamaaW.PrintLast Go.Proofs.YtgfmapilimlamaaW.PrintMore

/-! ### 'copy' of items, its run known by an equation -/
theorem run_copy_items (w : World) (ty : TypeId) (b o dLen dCap sb so sLen sCap : Nat) (cs : List Value) (hn : cs.length = Nat.min sLen dLen * 5)
    (hsrc : ∀ j v, cs[j]? = some v → w.cell? ⟨sb, so + j, none⟩ = some v) (hc : ∀ j, j < cs.length → (w.cell? ⟨b, o + j, none⟩).isSome = true) (hf : ∀ j, j < cs.length → w.frozen? ⟨b, o + j, none⟩ = false) (h1 : ∀ v ∈ cs, v.oneCell' = true) :
    (Builtin.copy_ #[24, 24] ty #[.slice (some ⟨b, o, none⟩) dLen dCap, .slice (some ⟨sb, so, none⟩) sLen sCap]).run Try.prog w = .ok (goInt (Nat.min sLen dLen)) (w.setCells b o cs) := by
  obtain ⟨i0, hi0, _, hzs, _⟩ := info_parts info33
  have hl := run_loadCells_list (P := Try.prog) w ⟨sb, so, none⟩ cs (fun j v h => by rw [Addr.add_lit]; exact hsrc j v h)
  have hst := run_storeCells_cells (P := Try.prog) b o cs 0 w (by simpa using hc) (by simpa using hf) h1
  rw [hn] at hl
  simp [Builtin.copy_, run_underlying Try.underlying24, Builtin.lenOf, Builtin.firstCells, sizeOf, typeInfo, hi0, hzs, hl, hst]
theorem list_copy_run (w : World) {ops : Array Oper} {rest : List Oper} {o : Oper} {a : Act} {Q : Exit → Act → World → Prop} (hgd : o.guard = none) (d s : Operand)
    (ho : o.op = .call { callee := .builtin .copy, args := #[d, s], argTypes := #[24, 24] }) (v u : Value) (hd : a.eval d = v) (hs : a.eval s = u) {v' : Value} {w' : World}
    (hr : (Builtin.copy_ #[24, 24] o.type #[v, u]).run Try.prog w = .ok v' w') (h : wpList Try.prog ops Q rest (a.put o.dst v') w') : wpList Try.prog ops Q (o :: rest) a w :=
  wpList_plain hgd fun _ hK => by
    unfold Oper.wp execOp
    simp only [ho, resolve, invoke, builtin, Sem.run_bind, Sem.run_pure, Result.andThen_ok, List.map_toArray, List.map_cons, List.map_nil, hd, hs, hr]
    exact hK _ _ h
theorem step_copy_run {ops : Array Oper} {o : Oper} {a : Act} {w : World} {K : Act → World → Prop} {Q : Exit → Act → World → Prop} {E : Prop}
    (hg : o.guard = none) (d x : Operand) (hop : o.op = Op.call { callee := Callee.builtin Builtin.copy, args := #[d, x], argTypes := #[24, 24] })
    (v u : Value) (hd : a.eval d = v) (hx : a.eval x = u) {v' : Value} {w' : World} (hr : (Builtin.copy_ #[24, 24] o.type #[v, u]).run Try.prog w = .ok v' w') (hK : K (a.put o.dst v') w') :
    if Region.wanted o (yielded ops a.tmps) = true then Oper.wp Try.prog o a w K Q else E := by
  have hw : Region.wanted o (yielded ops a.tmps) = true := by simp [Region.wanted, hg]
  rw [if_pos hw]
  unfold Oper.wp
  simp [execOp, hop, resolve, invoke, builtin, hd, hx, hr, Result.andThen]
  exact hK
theorem drew_cells (b : Nat) : ∀ (vs : List Value) (o : Nat) (w : World), (w.setCells b o vs).drew = w.drew.setCells b o vs
  | [], _, _ => rfl
  | v :: r, o, w => by rw [World.setCells, World.setCells, drew_cells b r]; rfl

/-- 'overlaps' of two blocks that are not the same one: no. -/
theorem overlaps_no (w : World) (g vb off : Nat) (vcs cur : Array Value) (hne : vb ≠ g) (hv : w.heap[vb]? = some (.cells vcs 33 (0, 0))) (hg : w.heap[g]? = some (.cells cur 33 (0, 0))) (hcur : cur.size ≠ 0) (vc lb cb : Nat) :
    (callFunc 25 #[.slice (some ⟨vb, 0, none⟩) 1 vc, .slice (some ⟨g, off, none⟩) lb cb]).run Try.prog w = .ok (.value (.bool false)) w := by
  obtain ⟨i0, hi0, _, hzs, _⟩ := info_parts info33
  rw [run_callFunc_extern Try.func25 (by kernel_rfl) (by kernel_rfl) (by kernel_rfl) (e := Extern.SlicesOverlaps.overlaps #[24, 24] #[4]) (by kernel_rfl),
    Lib.run_overlaps_apart w 24 4 33 Try.underlying24 5 (fun w => by simp [sizeOf, typeInfo, hi0, hzs]) ⟨vb, 0, none⟩ ⟨g, off, none⟩ 1 vc lb cb hne 33 33 vcs.size cur.size (by simp [World.shape?, hv]) (by simp [World.shape?, hg]) hcur (blk_frozen hv _) (blk_frozen hv _)]
  rfl

/-- A row of one item, read. -/
theorem one_C {w : World} {vb : Nat} {vcs : Array Value} {x : S33} (hv : w.heap[vb]? = some (.cells vcs 33 (0, 0))) (hvs : vcs.toList = cells5 x) : Kd.C k33 w (some ⟨vb, 0, none⟩) 1 [x] := by
  refine ⟨rfl, by omega, fun _ => ⟨_, rfl, fun j p hj => ?_⟩⟩
  have hj0 : j = 0 := by
    have := (List.getElem?_eq_some_iff.1 hj).1
    simp only [List.length_cons, List.length_nil] at this
    omega
  subst hj0
  have hp : x = p := by simpa using hj
  subst hp
  refine ⟨cells5 x, rfl, k33_mk _ x, fun i u hu => ?_⟩
  rw [Addr.add_lit, cell_of_row w vb _ vcs 33 (0, 0) hv, ← Array.getElem?_toList, hvs]
  simpa using hu

set_option maxHeartbeats 4000000 in
set_option maxRecDepth 1000000 in
/-- slices.Insert at the end. -/
theorem insert_end (u : Value) (l0 : List S33) (x : S33) (w0 w : World) (vb vc : Nat) (vcs : Array Value) (hB : Below w0.heap.size w0 w) (ho0 : Kd.R k33 33 w w0.heap.size (fun _ => True) u l0) (hlen : l0.length < 1099511627776)
    (hv : w.heap[vb]? = some (.cells vcs 33 (0, 0))) (hvs : vcs.toList = cells5 x) :
    Calls Try.prog 21 #[u, .int .i64 (l0.length : Int), .slice (some ⟨vb, 0, none⟩) 1 vc] w fun e w' => ∃ v0_ : Value, e = .returned v0_ ∧ Kd.R k33 33 w' w0.heap.size (fun _ => True) v0_ (l0 ++ [x]) ∧ Below w0.heap.size w0 w' := by
  have HO := Aside0.mk ho0
  have HB := Aside0.mk hB
  have HC := Aside0.mk (one_C hv hvs)
  have LM := Aside0.mk hlen
  rcases (item_own ho0).2 with ⟨rfl, h0⟩ | ⟨g, c, cur, rfl, hb, hh, hnc, hcm, hcs, htake⟩
  · have hl0 := List.length_eq_zero_iff.1 h0
    subst hl0
    clear ho0 hB hv hvs hlen
    go_enter Try.func21, Try.ntmps21
    go_wp2_with ((with_reducible refine gate_builtin (b := .append) (xs := #[.tmp 23, .tmp 24]) rfl ?_); at_builtin; refine Kd.R_append_rows k33 (w0 := w0) w0.heap.size rfl (.tmp 23) (.tmp 24) 24 33 (.agg #[(.string ⟨#[]⟩), (.string ⟨#[]⟩), (.string ⟨#[]⟩), (.int .i64 0), (.bool false)]) 64 rfl Try.underlying24 info33 rfl (by decide) (by omega) _ [] [x] _ _ _ (fun _ => True) (fun _ => False) rfl rfl HO.out HC.out (fun _ _ h => h) (fun _ h => h.elim) (fun _ _ => trivial) HB.out (below_size HB.out) ?aL ?_; (case aL => have := LM.out; first | omega | (simp only [List.length_nil]; omega)); intro v2 w9 ho hb hg hat; have HO2 := Aside0.mk ho; have HB2 := Aside0.mk hb; clear ho hb hg hat)
    all_goals (go_ret; exact ⟨_, rfl, HO2.out, HB2.out⟩)
  · clear ho0 hB hv hvs hlen hh hcs htake
    go_enter Try.func21, Try.ntmps21
    go_wp2_with ((with_reducible refine gate_builtin (b := .append) (xs := #[.tmp 23, .tmp 24]) rfl ?_); at_builtin; refine Kd.R_append_rows k33 (w0 := w0) w0.heap.size rfl (.tmp 23) (.tmp 24) 24 33 (.agg #[(.string ⟨#[]⟩), (.string ⟨#[]⟩), (.string ⟨#[]⟩), (.int .i64 0), (.bool false)]) 64 rfl Try.underlying24 info33 rfl (by decide) (by omega) _ l0 [x] _ _ _ (fun _ => True) (fun _ => False) rfl rfl HO.out HC.out (fun _ _ h => h) (fun _ h => h.elim) (fun _ _ => trivial) HB.out (below_size HB.out) ?aL ?_; (case aL => have := LM.out; first | omega | (simp only [List.length_nil]; omega)); intro v2 w9 ho hb hg hat; have HO2 := Aside0.mk ho; have HB2 := Aside0.mk hb; clear ho hb hg hat)
    all_goals (go_ret; exact ⟨_, rfl, HO2.out, HB2.out⟩)

/-! ### in the middle -/
theorem shift_list (cur F v : List Value) (a m : Nat) (hv : v.length = 5) (hF : cur.take m = F) (ha : a ≤ m) (hm : m + 5 ≤ cur.length) :
    ((cur.take (a + 5) ++ F.drop a ++ cur.drop (a + 5 + (F.drop a).length)).take a ++ v ++ (cur.take (a + 5) ++ F.drop a ++ cur.drop (a + 5 + (F.drop a).length)).drop (a + v.length)).take (m + 5) = F.take a ++ v ++ F.drop a := by
  have hFl : F.length = m := by rw [← hF, List.length_take]; omega
  have h1 : (cur.take (a + 5)).length = a + 5 := by rw [List.length_take]; omega
  have h2 : (cur.take (a + 5) ++ F.drop a ++ cur.drop (a + 5 + (F.drop a).length)).take a = F.take a := by
    rw [List.append_assoc, List.take_append_of_le_length (by omega), List.take_take, Nat.min_eq_left (by omega), ← hF, List.take_take, Nat.min_eq_left ha]
  have h3 : (cur.take (a + 5) ++ F.drop a ++ cur.drop (a + 5 + (F.drop a).length)).drop (a + v.length) = F.drop a ++ cur.drop (a + 5 + (F.drop a).length) := by
    rw [hv, List.append_assoc, List.drop_left' h1]
  rw [h2, h3, ← List.append_assoc, List.take_append_of_le_length (by simp only [List.length_append, List.length_take, List.length_drop]; omega), List.take_of_length_le (by simp only [List.length_append, List.length_take, List.length_drop]; omega)]
theorem grow_list (row F v : List Value) (a m : Nat) (hv : v.length = 5) (hF : row.take a = F.take a) (hFl : F.length = m) (ha : a ≤ m) (hm : m + 5 ≤ row.length) :
    ((row.take a ++ v ++ row.drop (a + v.length)).take (a + 5) ++ F.drop a ++ (row.take a ++ v ++ row.drop (a + v.length)).drop (a + 5 + (F.drop a).length)).take (m + 5) = F.take a ++ v ++ F.drop a := by
  have h1 : (row.take a ++ v).length = a + 5 := by simp only [List.length_append, List.length_take]; omega
  rw [List.take_left' h1, hF, List.take_append_of_le_length (by simp only [List.length_append, List.length_take, List.length_drop]; omega), List.take_of_length_le (by simp only [List.length_append, List.length_take, List.length_drop]; omega)]
theorem flat_mid (l0 : List S33) (i : Nat) (x : S33) : flat (l0.take i ++ x :: l0.drop i) = (flat l0).take (i * 5) ++ cells5 x ++ (flat l0).drop (i * 5) := by
  rw [flat_append, flat, flat_take, flat_drop, List.append_assoc]
theorem mid_len (l0 : List S33) (i : Nat) (x : S33) (h : i ≤ l0.length) : l0.length + 1 = (l0.take i ++ x :: l0.drop i).length := by
  simp only [List.length_append, List.length_cons, List.length_take, List.length_drop]; omega
theorem grown_setCells (w : World) (g o : Nat) (news : List Value) : w.grownBy (w.setCells g o news) (some g) := by
  obtain ⟨s1, s2, s3, s4⟩ := setCells_same g news o w
  exact ⟨s1, s2, s3, by rw [s4]; exact Nat.le_refl _, fun k' _ hk' => setCells_far news _ k' (fun he => hk' (by rw [he]))⟩
theorem row_cell {w : World} {g n : Nat} {cur : Array Value} {F : List Value} (hh : w.heap[g]? = some (.cells cur 33 (0, 0))) (ht : cur.toList.take n = F) (j : Nat) (v : Value) (hj : F[j]? = some v) : w.cell? ⟨g, j, none⟩ = some v := by
  rw [cell_of_row w g _ cur 33 (0, 0) hh, ← Array.getElem?_toList]
  rw [← ht, List.getElem?_take] at hj
  split at hj
  · exact hj
  · cases hj

set_option maxHeartbeats 4000000 in
set_option maxRecDepth 1000000 in
/-- slices.Insert ahead of the end, room. -/
theorem insert_shift (g c : Nat) (l0 : List S33) (x : S33) (i : Nat) (w0 w : World) (vb vc : Nat) (vcs : Array Value) (hB : Below w0.heap.size w0 w) (ho0 : Kd.R k33 33 w w0.heap.size (fun _ => True) (.slice (some ⟨g, 0, none⟩) l0.length c) l0) (hlen : l0.length < 1099511627776)
    (hi : i < l0.length) (hroom : l0.length + 1 ≤ c) (hne : vb ≠ g) (hv : w.heap[vb]? = some (.cells vcs 33 (0, 0))) (hvs : vcs.toList = cells5 x) :
    Calls Try.prog 21 #[.slice (some ⟨g, 0, none⟩) l0.length c, .int .i64 (i : Int), .slice (some ⟨vb, 0, none⟩) 1 vc] w fun e w' => ∃ v0_ : Value, e = .returned v0_ ∧ Kd.R k33 33 w' w0.heap.size (fun _ => True) v0_ (l0.take i ++ x :: l0.drop i) ∧ Below w0.heap.size w0 w' := by
  obtain ⟨_, hbg, hnc, hcm, _, cur, hh, hcs, htake⟩ := item_form ho0
  have hcm' : c ≤ 9223372036854775807 := by unfold maxLen at hcm; omega
  have hz2 : ¬ ((i : Int) = (l0.length : Int)) := by omega
  have hz3 : ¬ ((c : Int) < (l0.length : Int) + 1) := by omega
  have hn1 : (l0.length : Int) + 1 ≤ (c : Int) := by omega
  have hw0 : IntKind.i64.wrap ((l0.length : Int) + 1) = (l0.length : Int) + 1 := by rw [IntKind.wrap_i64]; omega
  have hw1 : IntKind.i64.wrap ((i : Int) + 1) = (i : Int) + 1 := by rw [IntKind.wrap_i64]; omega
  have hb1 : (0 : Int) ≤ (i : Int) + 1 := by omega
  have hb0 : (0 : Int) ≤ (l0.length : Int) + 1 := by omega
  have hin : i ≤ l0.length := by omega
  have htn : ((i : Int) + 1).toNat = i + 1 := by omega
  have htn0 : ((l0.length : Int) + 1).toNat = l0.length + 1 := by omega
  have hb2 : ¬ (c = i + 1) := by omega
  have hb3 : (i : Int) ≤ (l0.length : Int) + 1 := by omega
  have hb4 : ¬ (c = i) := by omega
  have hov := fun off lb cb => overlaps_no w g vb off vcs cur hne hv hh (by omega) vc lb cb
  have hdl : ((flat l0).drop (i * 5)).length = (l0.length - i) * 5 := by rw [List.length_drop, flat_len]; omega
  have hsome : ∀ j, j < c * 5 → (w.cell? ⟨g, j, none⟩).isSome = true := fun j hj => by rw [cell_of_row w g _ cur 33 (0, 0) hh, Array.getElem?_eq_getElem (by omega)]; rfl
  have hcp1 : ∀ ty dc sc, (Builtin.copy_ #[24, 24] ty #[.slice (some ⟨g, (i + 1) * 5, none⟩) (l0.length - i) dc, .slice (some ⟨g, i * 5, none⟩) (l0.length + 1 - i) sc]).run Try.prog w.drew = .ok (goInt _) (w.drew.setCells g ((i + 1) * 5) ((flat l0).drop (i * 5))) := fun ty dc sc =>
    run_copy_items w.drew ty g ((i + 1) * 5) (l0.length - i) dc g (i * 5) (l0.length + 1 - i) sc ((flat l0).drop (i * 5)) (by rw [hdl]; simp only [Nat.min_def]; split <;> omega)
      (fun j v hj => row_cell (w := w) hh htake (i * 5 + j) v (by rwa [List.getElem?_drop] at hj))
      (fun j hj => hsome _ (by omega)) (fun j hj => blk_frozen (w := w) hh _) (fun v hv => flat_one l0 v (List.mem_of_mem_drop hv))
  obtain ⟨W1, hW1⟩ : ∃ W1, W1 = w.drew.setCells g ((i + 1) * 5) ((flat l0).drop (i * 5)) := ⟨_, rfl⟩
  obtain ⟨cur1, h11, h12, h13⟩ := setCells_row ((flat l0).drop (i * 5)) ((i + 1) * 5) w.drew cur hh (by rw [hdl]; omega)
  rw [← hW1] at h11
  have hv1 : W1.heap[vb]? = some (.cells vcs 33 (0, 0)) := by rw [hW1, setCells_far _ _ _ hne]; exact hv
  have hcp2 : ∀ ty dc, (Builtin.copy_ #[24, 24] ty #[.slice (some ⟨g, i * 5, none⟩) (l0.length + 1 - i) dc, .slice (some ⟨vb, 0, none⟩) 1 vc]).run Try.prog W1 = .ok (goInt _) (W1.setCells g (i * 5) (cells5 x)) := fun ty dc =>
    run_copy_items W1 ty g (i * 5) (l0.length + 1 - i) dc vb 0 1 vc (cells5 x) (by show 5 = _; simp only [Nat.min_def]; split <;> omega)
      (fun j v hj => by rw [Nat.zero_add]; exact row_cell (w := W1) (n := 5) hv1 (by rw [hvs]; rfl) j v hj)
      (fun j hj => by rw [cell_of_row W1 g _ cur1 33 (0, 0) h11, Array.getElem?_eq_getElem (by have : j < 5 := hj; omega)]; rfl) (fun j hj => blk_frozen (w := W1) h11 _) (fun v hv => flat_one [x] v (by rw [flat]; simp [flat, hv]))
  rw [← hW1] at hcp1
  obtain ⟨cur2, h21, h22, h23⟩ := setCells_row (cells5 x) (i * 5) W1 cur1 h11 (by show _ + 5 ≤ _; omega)
  have hfin : Kd.R k33 33 (W1.setCells g (i * 5) (cells5 x)) w0.heap.size (fun _ => True) (.slice (some ⟨g, 0, none⟩) (l0.length + 1) c) (l0.take i ++ x :: l0.drop i) := by
    refine item_mk (mid_len l0 i x hin) hbg hroom hcm trivial h21 (by omega) ?_
    rw [h23, h13, flat_mid, show (i + 1) * 5 = i * 5 + 5 by omega, show (l0.length + 1) * 5 = l0.length * 5 + 5 by omega]
    exact shift_list cur.toList (flat l0) (cells5 x) (i * 5) (l0.length * 5) rfl htake (by omega) (by have := Array.length_toList (xs := cur); omega)
  have hsz : W1.heap.size = w.heap.size := by rw [hW1, (setCells_same g _ _ _).2.2.2]; rfl
  have hfinB : Below w0.heap.size w0 (W1.setCells g (i * 5) (cells5 x)) := by
    have h1 : Below w0.heap.size w0 W1 := by rw [hW1]; exact (below_drew hB).grown (grown_setCells _ _ _ _) (below_size (below_drew hB)) (fun k hk => by injection hk with hk; subst hk; exact hbg)
    exact h1.grown (grown_setCells _ _ _ _) (by rw [hsz]; exact below_size hB) (fun k hk => by injection hk with hk; subst hk; exact hbg)
  have HF := Aside0.mk hfin
  have HG := Aside0.mk hfinB
  clear hfin hfinB hsome hdl hv1 h11 h12 h13 h21 h22 h23 hW1 hsz hv hvs hh hcs htake ho0 hB
  go_enter Try.func21, Try.ntmps21
  go_wp2_with (simp only [hov])
  go_region_law (refine step_copy_run rfl _ _ rfl _ _ (by simp [Act.eval, Act.put]) (by simp [Act.eval, Act.put]) (hcp1 _ _ _) ?_)
  go_wp2_with (at_builtin; refine list_copy_run _ rfl _ _ rfl _ _ rfl rfl (hcp2 _ _) ?_)
  go_ret
  exact ⟨_, rfl, HF.out, HG.out⟩

set_option maxHeartbeats 4000000 in
set_option maxRecDepth 1000000 in
/-- slices.Insert ahead of the end, no room: a new row. -/
theorem insert_grow (g c : Nat) (l0 : List S33) (x : S33) (i : Nat) (w0 w : World) (vb vc : Nat) (vcs : Array Value) (hB : Below w0.heap.size w0 w) (ho0 : Kd.R k33 33 w w0.heap.size (fun _ => True) (.slice (some ⟨g, 0, none⟩) l0.length c) l0) (hlen : l0.length < 1099511627776)
    (hi : i < l0.length) (hroom : c < l0.length + 1) (hne : vb ≠ g) (hv : w.heap[vb]? = some (.cells vcs 33 (0, 0))) (hvs : vcs.toList = cells5 x) :
    Calls Try.prog 21 #[.slice (some ⟨g, 0, none⟩) l0.length c, .int .i64 (i : Int), .slice (some ⟨vb, 0, none⟩) 1 vc] w fun e w' => ∃ v0_ : Value, e = .returned v0_ ∧ Kd.R k33 33 w' w0.heap.size (fun _ => True) v0_ (l0.take i ++ x :: l0.drop i) ∧ Below w0.heap.size w0 w' := by
  obtain ⟨_, hbg, hnc, hcm, _, cur, hh, hcs, htake⟩ := item_form ho0
  have hcm' : c ≤ 9223372036854775807 := by unfold maxLen at hcm; omega
  obtain ⟨i0, hi0, hz0, hzs, hzb⟩ := info_parts info33
  have hz2 : ¬ ((i : Int) = (l0.length : Int)) := by omega
  have hz3 : (c : Int) < (l0.length : Int) + 1 := by omega
  have hw0 : IntKind.i64.wrap ((l0.length : Int) + 1) = (l0.length : Int) + 1 := by rw [IntKind.wrap_i64]; omega
  have hw1 : IntKind.i64.wrap ((i : Int) + 1) = (i : Int) + 1 := by rw [IntKind.wrap_i64]; omega
  have hw2 : IntKind.i64.wrap ((l0.length : Int) + 1 - (i : Int)) = (l0.length : Int) + 1 - (i : Int) := by rw [IntKind.wrap_i64]; omega
  have hkk : (l0.length : Int) + 1 - (i : Int) = ((l0.length + 1 - i : Nat) : Int) := by omega
  have hik : i + (l0.length + 1 - i) = l0.length + 1 := by omega
  have hbgw : g < w.heap.size := blk_lt hh
  have hvbw : vb < w.heap.size := blk_lt hv
  have htk : cur.toList.take (i * 5) = flat (l0.take i) := by
    rw [flat_take, ← htake, List.take_take, Nat.min_eq_left (by omega)]
  have hold : (Builtin.firstCells i0.size i (.slice (some ⟨g, 0, none⟩) i c)).run Try.prog w.drew = .ok (flat (l0.take i)).toArray w.drew := by
    rw [hzs]
    exact run_firstCells_some w.drew 5 i ⟨g, 0, none⟩ i c (flat (l0.take i)) (by rw [flat_len, List.length_take]; omega) (fun j v hj => by
      rw [Addr.add_lit, Nat.zero_add]
      exact row_cell (w := w) hh htk j v hj)
  obtain ⟨G, hG⟩ : ∃ G, G = grownCap w (l0.length + 1) c 33 := ⟨_, rfl⟩
  obtain ⟨ROW, hROW⟩ : ∃ ROW : Array Value, ROW = (flat (l0.take i)).toArray ++ Builtin.zeroCells (Value.agg #[(.string ⟨#[]⟩), (.string ⟨#[]⟩), (.string ⟨#[]⟩), (.int .i64 0), (.bool false)]).cells (l0.length + 1 - i) ++ Builtin.zeroCells (Value.agg #[(.string ⟨#[]⟩), (.string ⟨#[]⟩), (.string ⟨#[]⟩), (.int .i64 0), (.bool false)]).cells (G - (l0.length + 1)) := ⟨_, rfl⟩
  have hrz : ∀ ty, (Builtin.append_ #[24, 3] ty #[.slice (some ⟨g, 0, none⟩) i c, .int .i64 ((l0.length : Int) + 1 - (i : Int))]).run Try.prog w =
      .ok (.slice (some ⟨w.heap.size, 0, none⟩) (l0.length + 1) G) (w.drew.alloc (.cells ROW 33)) := fun ty => by
    have h := Lib.run_append_grow_zeros w 24 3 ty 33 i0 _ .i64 .i64 Try.underlying24 Try.underlying3 hi0 hz0 (some ⟨g, 0, none⟩) i c (flat (l0.take i)) hold (l0.length + 1 - i) (by omega) (by rw [hzs]; omega) (by omega) (by omega) (by rw [hzb]; omega) (by rw [hzb, hik]; exact growslice_fits hroom (by omega))
    rw [hik, ← hG, ← hROW] at h
    rw [hkk]
    exact h
  have hGn : l0.length + 1 ≤ G := by rw [hG]; exact grownCap_ge w _ _ _
  have hGm : G ≤ maxLen := by rw [hG]; exact grownCap_le_maxLen w (l0.length + 1) c 33 (by unfold maxLen; omega)
  have hRs : ROW.size = G * 5 := by
    rw [hROW]
    have h1 : (flat (l0.take i)).length = i * 5 := by rw [flat_len, List.length_take, Nat.min_eq_left (by omega)]
    simp [Builtin.zeroCells, Value.cells, h1]
    omega
  have hRt : ROW.toList.take (i * 5) = (flat l0).take (i * 5) := by
    have h1 : (flat (l0.take i)).length = i * 5 := by rw [flat_len, List.length_take, Nat.min_eq_left (by omega)]
    rw [hROW, Array.toList_append, Array.toList_append, List.append_assoc, List.take_left' (by simpa using h1), ← flat_take]
  obtain ⟨W1, hW1⟩ : ∃ W1, W1 = w.drew.alloc (.cells ROW 33) := ⟨_, rfl⟩
  have hNew : W1.heap[w.heap.size]? = some (.cells ROW 33 (0, 0)) := by rw [hW1]; exact Array.getElem?_push_size
  have hOld : ∀ k, k < w.heap.size → W1.heap[k]? = w.heap[k]? := fun k hk => by rw [hW1]; show (w.heap.push _)[k]? = _; rw [Array.getElem?_push, if_neg (Nat.ne_of_lt hk)]
  have hdl : ((flat l0).drop (i * 5)).length = (l0.length - i) * 5 := by rw [List.length_drop, flat_len]; omega
  have hcpA : ∀ (W : World), W.heap = W1.heap → ∀ ty dc, (Builtin.copy_ #[24, 24] ty #[.slice (some ⟨w.heap.size, i * 5, none⟩) (l0.length + 1 - i) dc, .slice (some ⟨vb, 0, none⟩) 1 vc]).run Try.prog W = .ok (goInt _) (W.setCells w.heap.size (i * 5) (cells5 x)) := fun W hW ty dc =>
    run_copy_items W ty w.heap.size (i * 5) (l0.length + 1 - i) dc vb 0 1 vc (cells5 x) (by show 5 = _; simp only [Nat.min_def]; split <;> omega)
      (fun j v hj => by rw [Nat.zero_add]; exact row_cell (w := W) (n := 5) (by rw [hW, hOld _ hvbw]; exact hv) (by rw [hvs]; rfl) j v hj)
      (fun j hj => by rw [cell_of_row W w.heap.size _ ROW 33 (0, 0) (by rw [hW]; exact hNew), Array.getElem?_eq_getElem (by have : j < 5 := hj; omega)]; rfl) (fun j hj => blk_frozen (w := W) (by rw [hW]; exact hNew) _) (fun v hv => flat_one [x] v (by rw [flat]; simp [flat, hv]))
  have hcpB : ∀ (W W2 : World), W.heap = W1.heap → W2.heap = (W.setCells w.heap.size (i * 5) (cells5 x)).heap → ∀ ty dc sc, (Builtin.copy_ #[24, 24] ty #[.slice (some ⟨w.heap.size, (i + 1) * 5, none⟩) (l0.length - i) dc, .slice (some ⟨g, i * 5, none⟩) (l0.length - i) sc]).run Try.prog W2 = .ok (goInt _) (W2.setCells w.heap.size ((i + 1) * 5) ((flat l0).drop (i * 5))) := fun W W2 hW hW2 ty dc sc => by
    obtain ⟨cur1, h11, h12, h13⟩ := setCells_row (cells5 x) (i * 5) W ROW (by rw [hW]; exact hNew) (by show _ + 5 ≤ _; omega)
    have hg2 : W2.heap[g]? = some (.cells cur 33 (0, 0)) := by rw [hW2, setCells_far _ _ _ (Nat.ne_of_lt hbgw), hW, hOld _ hbgw]; exact hh
    exact run_copy_items W2 ty w.heap.size ((i + 1) * 5) (l0.length - i) dc g (i * 5) (l0.length - i) sc ((flat l0).drop (i * 5)) (by rw [hdl]; simp only [Nat.min_def]; split <;> omega)
      (fun j v hj => row_cell (w := W2) hg2 htake (i * 5 + j) v (by rwa [List.getElem?_drop] at hj))
      (fun j hj => by rw [cell_of_row W2 w.heap.size _ cur1 33 (0, 0) (by rw [hW2]; exact h11), Array.getElem?_eq_getElem (by omega)]; rfl) (fun j hj => blk_frozen (w := W2) (by rw [hW2]; exact h11) _) (fun v hv => flat_one l0 v (List.mem_of_mem_drop hv))
  have hfin : ∀ (W W2 : World), W.heap = W1.heap → W2.heap = (W.setCells w.heap.size (i * 5) (cells5 x)).heap → Kd.R k33 33 (W2.setCells w.heap.size ((i + 1) * 5) ((flat l0).drop (i * 5))) w0.heap.size (fun _ => True) (.slice (some ⟨w.heap.size, 0, none⟩) (l0.length + 1) G) (l0.take i ++ x :: l0.drop i) := fun W W2 hW hW2 => by
    obtain ⟨cur1, h11, h12, h13⟩ := setCells_row (cells5 x) (i * 5) W ROW (by rw [hW]; exact hNew) (by show _ + 5 ≤ _; omega)
    obtain ⟨cur2, h21, h22, h23⟩ := setCells_row ((flat l0).drop (i * 5)) ((i + 1) * 5) W2 cur1 (by rw [hW2]; exact h11) (by omega)
    refine item_mk (mid_len l0 i x (by omega)) (below_size hB) hGn hGm trivial h21 (by omega) ?_
    rw [h23, h13, flat_mid, show (i + 1) * 5 = i * 5 + 5 by omega, show (l0.length + 1) * 5 = l0.length * 5 + 5 by omega]
    exact grow_list ROW.toList (flat l0) (cells5 x) (i * 5) (l0.length * 5) rfl hRt (flat_len l0) (by omega) (by have := Array.length_toList (xs := ROW); omega)
  have hE1 : ((w.alloc (.cells ROW 33)).drew).heap = W1.heap := by rw [hW1]; rfl
  have hE2 : ((w.alloc (.cells ROW 33)).drew.setCells w.heap.size (i * 5) (cells5 x)).drew.heap = ((w.alloc (.cells ROW 33)).drew.setCells w.heap.size (i * 5) (cells5 x)).heap := rfl
  have hF := hfin _ _ hE1 hE2
  have hFB : Below w0.heap.size w0 (((w.alloc (.cells ROW 33)).drew.setCells w.heap.size (i * 5) (cells5 x)).drew.setCells w.heap.size ((i + 1) * 5) ((flat l0).drop (i * 5))) := by
    have h1 : Below w0.heap.size w0 (w.alloc (.cells ROW 33)).drew := below_drew (below_alloc hB _)
    have h2 := below_drew (h1.grown (grown_setCells _ w.heap.size (i * 5) (cells5 x)) (below_size h1) (fun k hk => by injection hk with hk; subst hk; exact below_size hB))
    exact h2.grown (grown_setCells _ w.heap.size _ _) (below_size h2) (fun k hk => by injection hk with hk; subst hk; exact below_size hB)
  have hcpB' := hcpB _ _ hE1 hE2
  have hcpA' := hcpA _ hE1
  have HF := Aside0.mk hF
  have HG := Aside0.mk hFB
  have hGi : ¬ (G = i) := by omega
  have hGim : ¬ (G = i + 1) := by omega
  have hci : ¬ (c = i) := by omega
  have hb1 : (0 : Int) ≤ (i : Int) + 1 := by omega
  have hin : i ≤ l0.length := by omega
  have htn : ((i : Int) + 1).toNat = i + 1 := by omega
  have hb3 : (i : Int) ≤ (l0.length : Int) := by omega
  have hG63 : G ≤ 9223372036854775807 := by unfold maxLen at hGm; omega
  clear hfin hF hFB hcpB hcpA hE1 hE2 hNew hOld hW1 hRt hRs hold htk hkk hik hG hROW hh hcs htake ho0 hB hv hvs hi0 hz0 hzs hzb hdl hGm hcm hlen hne
  go_enter Try.func21, Try.ntmps21
  go_wp2_with (first
    | (at_builtin; refine Lib.wpList_append_run _ rfl _ _ _ _ rfl _ _ rfl rfl _ _ (hrz _) ?_)
    | (at_builtin; refine list_copy_run _ rfl _ _ rfl _ _ rfl rfl (hcpA' _ _) ?_))
  go_region_law (go_loud (refine step_copy_run rfl _ _ rfl (.slice (some ⟨w.heap.size, (i + 1) * 5, none⟩) (l0.length - i) (G - (i + 1))) (.slice (some ⟨g, i * 5, none⟩) (l0.length - i) (c - i)) (by simp [Act.eval, Act.put]) (by simp [Act.eval, Act.put]) (hcpB' _ _ _) ?_))
  go_wp2
  go_ret
  exact ⟨_, rfl, HF.out, HG.out⟩

/-- slices.Insert of one item, anywhere. -/
theorem insert_ok (u : Value) (l0 : List S33) (x : S33) (i : Nat) (w0 w : World) (vb vc : Nat) (vcs : Array Value) (hB : Below w0.heap.size w0 w) (ho0 : Kd.R k33 33 w w0.heap.size (fun _ => True) u l0) (hlen : l0.length < 1099511627776) (hi : i ≤ l0.length)
    (hne : ∀ g, u.ownBlock = some g → vb ≠ g) (hv : w.heap[vb]? = some (.cells vcs 33 (0, 0))) (hvs : vcs.toList = cells5 x) :
    Calls Try.prog 21 #[u, .int .i64 (i : Int), .slice (some ⟨vb, 0, none⟩) 1 vc] w fun e w' => ∃ v0_ : Value, e = .returned v0_ ∧ Kd.R k33 33 w' w0.heap.size (fun _ => True) v0_ (l0.take i ++ x :: l0.drop i) ∧ Below w0.heap.size w0 w' := by
  by_cases h : i = l0.length
  · subst h
    rw [List.take_length, List.drop_length]
    exact insert_end u l0 x w0 w vb vc vcs hB ho0 hlen hv hvs
  · obtain ⟨g, c, rfl, _⟩ := Kd.R_form ho0 (by omega)
    have hg := hne g rfl
    by_cases hc : l0.length + 1 ≤ c
    · exact insert_shift g c l0 x i w0 w vb vc vcs hB ho0 hlen (by omega) hc hg hv hvs
    · exact insert_grow g c l0 x i w0 w vb vc vcs hB ho0 hlen (by omega) (by omega) hg hv hvs

end Go.Proofs.Ytgfmapilimlamaa.QFnExactRosterFollow
