/- The walk of the law FnSeal: with what its calls answer it answers true. -/
import Derived.Test.YtnofenbhioepbaaFactsFnSeal
import Derived.Test.YtnofenbhioepbaaQFnSealx
import Derived.Lib.ConvBytes
import Derived.Deep.RegionWith
import Derived.RegionTactic
import Derived.ChangeAlike
import Derived.Deep.DeepCutAuto
import Derived.Deep.CutBlock
set_option linter.unusedSimpArgs false
set_option linter.unusedVariables false
namespace Go.Proofs.Ytnofenbhioepbaa.QFnSeal
open Go Go.RowKit Go.Proofs.Ytnofenbhioepbaa.Bits Go.Proofs.Ytnofenbhioepbaa.Bytes Go.Proofs.YtnofenbhioepbaaW.PrintWords Go.Proofs.YtnofenbhioepbaaW.PrintLast Go.Proofs.YtnofenbhioepbaaW.PrintMore

theorem bytesWorld_below (w : World) (e : TypeId) (s : ByteArray) : Below w.heap.size w (Lib.bytesWorld w e s) :=
  ⟨rfl, rfl, rfl, by rw [Lib.bytesWorld_size]; omega, fun i hi => Lib.bytesWorld_at_old w e s i hi⟩
theorem set_getD (l : List Int) (p j : Nat) (x : Int) (h : p < l.length) : (l.set p x).getD j 0 = if j = p then x else l.getD j 0 := by
  simp only [List.getD_eq_getElem?_getD, List.getElem?_set]
  by_cases e : j = p
  · subst e
    rw [if_pos rfl, if_pos h, if_pos rfl]
    rfl
  · rw [if_neg (fun z => e z.symm), if_neg e]
theorem map_getD (l : List UInt8) (j : Nat) (h : j < l.length) : (l.map fun z => (z.toNat : Int)).getD j 0 = ((l.getD j 0).toNat : Int) := by
  simp only [List.getD_eq_getElem?_getD, List.getElem?_map, List.getElem?_eq_getElem h]
  rfl
theorem data_length (s : ByteArray) : s.data.toList.length = s.size := Array.length_toList
/-- What a text that was turned into bytes leaves in memory. -/
theorem conv_facts (w : World) (s : ByteArray) (p : Nat) (hp : p < s.size) :
    (∀ j, j < s.size → (Lib.bytesWorld w 5 s).cell? ⟨w.heap.size, j, none⟩ = some (.int .u8 ((s.data.toList.getD j 0).toNat : Int))) ∧ (Lib.bytesWorld w 5 s).frozen? ⟨w.heap.size, p, none⟩ = false := by
  refine ⟨fun j hj => Lib.bytesWorld_cell w 5 s j hj, ?_⟩
  unfold World.frozen?
  rw [Lib.bytesWorld_at_new]
  have h : s.size ≤ (Lib.bytesCells w 5 s).size := by
    unfold Lib.bytesCells
    rw [Array.size_append, Array.size_map]
    have : s.data.size = s.size := rfl
    omega
  simp only [Bool.and_eq_false_imp, decide_eq_true_eq, decide_eq_false_iff_not]
  omega
set_option maxHeartbeats 1000000 in
theorem law_long (A0 : Option Addr) (c0 : Nat) (l0 : List Int) (A1 : Option Addr) (c1 : Nat) (l1 : List Int) (w : World) (h : l0.length > 1048576 ∨ l1.length > 1048576) :
    Calls Try.prog 4 #[.slice A0 l0.length c0, .slice A1 l1.length c1] w fun e w' => e = .returned (.bool true) ∧ Below w.heap.size w w' := by
  by_cases h0 : (l0.length : Int) > 1048576
  · have h0b : decide (1048576 < (l0.length : Int)) = true := decide_eq_true h0
    clear h h0
    go_enter Try.func4, Try.ntmps4
    go_wp2
    go_ret
    exact ⟨rfl, Below.refl _ _⟩
  · have h0b : decide (1048576 < (l0.length : Int)) = false := decide_eq_false h0
    have h1b : decide (1048576 < (l1.length : Int)) = true := decide_eq_true (by omega)
    clear h h0
    go_enter Try.func4, Try.ntmps4
    go_wp2
    go_ret
    exact ⟨rfl, Below.refl _ _⟩
set_option maxHeartbeats 2000000 in
theorem law_empty (k : Nat) (A0 : Option Addr) (c0 : Nat) (l0 : List Int) (A1 : Option Addr) (c1 : Nat) (l1 : List Int) (w : World) (hr0 : Kd.C (Kd.int .u8) w A0 l0.length l0) (hc0 : l0.length ≤ c0) (hr1 : Kd.C (Kd.int .u8) w A1 l1.length l1) (hc1 : l1.length ≤ c1)
    (h0 : l0.length ≤ 1048576) (h1 : l1.length ≤ 1048576) (t u s : ByteArray) (c c1' c2 c3 : Int) (htz : t.size ≤ 20001) (huz : u.size ≤ 256)
    (ht : spec_DrawSeal.f k l0 = some t) (hs1 : impl_Seal.f k t = some s) (hs2 : spec_Seal.f k t = some s) (hse : s = ⟨#[]⟩) (hd : spec_DrawCrcMore.f k l1 = some (c, u))
    (hend : t.size + u.size > 20000 ∨ (¬ t.size + u.size > 20000 ∧ impl_CrcMore.f k c u = some c1' ∧ spec_CrcMore.f k c u = some c1' ∧ impl_Crc.f k t = some c2 ∧ impl_CrcMore.f k c2 u = some c3 ∧ impl_Crc.f k (t ++ u) = some c3)) :
    Calls Try.prog 4 #[.slice A0 l0.length c0, .slice A1 l1.length c1] w fun e w' => e = .returned (.bool true) ∧ Below w.heap.size w w' := by
  have h0b : decide (1048576 < (l0.length : Int)) = false := decide_eq_false (by omega)
  have h1b : decide (1048576 < (l1.length : Int)) = false := decide_eq_false (by omega)
  have HT := Aside0.mk ht
  have HS1 := Aside0.mk hs1
  have HS2 := Aside0.mk hs2
  have HD := Aside0.mk hd
  have HR0 := Aside0.mk hr0
  have HR1 := Aside0.mk hr1
  have HE := Aside0.mk hend
  subst hse
  clear ht hs1 hs2 hd hr0 hr1 hend
  go_enter Try.func4, Try.ntmps4
  go_wp2_with fail
  refine (spec_DrawSeal.calls k A0 c0 l0 t _ HR0.out hc0 HT.out).mono ?_
  rintro e w1 ⟨rfl, hb⟩
  have B1 := Aside0.mk hb
  clear hb
  go_wp2_with fail
  refine (impl_Seal.calls k t _ _ HS1.out).mono ?_
  rintro e w2 ⟨rfl, hb⟩
  have B2 := Aside0.mk (below_step B1.out hb)
  clear hb B1
  go_wp2_with fail
  refine (spec_Seal.calls k t _ _ HS2.out).mono ?_
  rintro e w3 ⟨rfl, hb⟩
  have B3 := Aside0.mk (below_step B2.out hb)
  clear hb B2
  go_wp2_with fail
  refine (spec_DrawCrcMore.calls k A1 c1 l1 c u _ (Kd.C_below HR1.out B3.out) hc1 HD.out).mono ?_
  rintro e w4 ⟨rfl, hb⟩
  have B4 := Aside0.mk (below_step B3.out hb)
  clear hb B3
  rcases HE.out with hlong | ⟨hshort, q1, q2, q3, q4, q5⟩
  · have hlb : decide (20000 < (t.size : Int) + (u.size : Int)) = true := decide_eq_true (by omega)
    clear hlong HE
    go_wp2
    go_ret
    exact ⟨rfl, B4.out⟩
  · have hlb : decide (20000 < (t.size : Int) + (u.size : Int)) = false := decide_eq_false (by omega)
    have Q1 := Aside0.mk q1
    have Q2 := Aside0.mk q2
    have Q3 := Aside0.mk q3
    have Q4 := Aside0.mk q4
    have Q5 := Aside0.mk q5
    clear hshort q1 q2 q3 q4 q5 HE
    go_wp2_with fail
    refine (impl_CrcMore.calls k c u c1' _ Q1.out).mono ?_
    rintro e w5 ⟨rfl, hb⟩
    have B5 := Aside0.mk (below_step B4.out hb)
    clear hb B4
    go_wp2_with fail
    refine (spec_CrcMore.calls k c u c1' _ Q2.out).mono ?_
    rintro e w6 ⟨rfl, hb⟩
    have B6 := Aside0.mk (below_step B5.out hb.below)
    clear hb B5
    go_wp2_with fail
    refine (impl_Crc.calls k t c2 _ Q3.out).mono ?_
    rintro e w7 ⟨rfl, hb⟩
    have B7 := Aside0.mk (below_step B6.out hb)
    clear hb B6
    go_wp2_with fail
    refine (impl_CrcMore.calls k c2 u c3 _ Q4.out).mono ?_
    rintro e w8 ⟨rfl, hb⟩
    have B8 := Aside0.mk (below_step B7.out hb)
    clear hb B7
    go_wp2_with fail
    refine (impl_Crc.calls k (t ++ u) c3 _ Q5.out).mono ?_
    rintro e w9 ⟨rfl, hb⟩
    have B9 := Aside0.mk (below_step B8.out hb)
    clear hb B8
    go_wp2
    go_ret
    exact ⟨by first | rfl | simp, B9.out⟩
set_option maxHeartbeats 4000000 in
set_option maxRecDepth 100000 in
theorem law_full (k : Nat) (A0 : Option Addr) (c0 : Nat) (l0 : List Int) (A1 : Option Addr) (c1 : Nat) (l1 : List Int) (w : World) (hr0 : Kd.C (Kd.int .u8) w A0 l0.length l0) (hc0 : l0.length ≤ c0) (hr1 : Kd.C (Kd.int .u8) w A1 l1.length l1) (hc1 : l1.length ≤ c1)
    (h0 : l0.length ≤ 1048576) (h1 : l1.length ≤ 1048576) (t u s : ByteArray) (c c1' c2 c3 : Int) (htz : t.size ≤ 20001) (huz : u.size ≤ 256) (hsz : s.size ≤ 20000)
    (ht : spec_DrawSeal.f k l0 = some t) (hs1 : impl_Seal.f k t = some s) (hs2 : spec_Seal.f k t = some s) (hne : s.toList ≠ []) (hd : spec_DrawCrcMore.f k l1 = some (c, u))
    (p : Nat) (v : Int) (hp : p < s.size) (hl1 : laws_lwAt.f l1 0 (s.size : Int) = some (p : Int)) (hl2 : laws_lwAt.f l1 1 255 = some v) (hv0 : 0 ≤ v) (hv1 : v < 255)
    (hun : impl_Unseal.f k s = some (t, 0, 0)) (b : ByteArray) (x : ByteArray) (y : Int) (hb0 : b = strOfNums ((s.data.toList.map fun z => (z.toNat : Int)).set p (Go.bits .xor .u8 ((s.data.toList.getD p 0).toNat : Int) ((1 + v) % 256)))) (hub : impl_Unseal.f k b = some (x, y, 5))
    (hend : t.size + u.size > 20000 ∨ (¬ t.size + u.size > 20000 ∧ impl_CrcMore.f k c u = some c1' ∧ spec_CrcMore.f k c u = some c1' ∧ impl_Crc.f k t = some c2 ∧ impl_CrcMore.f k c2 u = some c3 ∧ impl_Crc.f k (t ++ u) = some c3)) :
    Calls Try.prog 4 #[.slice A0 l0.length c0, .slice A1 l1.length c1] w fun e w' => e = .returned (.bool true) ∧ Below w.heap.size w w' := by
  have h0b : decide (1048576 < (l0.length : Int)) = false := decide_eq_false (by omega)
  have h1b : decide (1048576 < (l1.length : Int)) = false := decide_eq_false (by omega)
  have hne1 : (s.toList == ([] : List UInt8)) = false := beq_eq_false_iff_ne.mpr hne
  have hne2 : (s.toList != ([] : List UInt8)) = true := bne_iff_ne.mpr hne
  have hne3 : s.toList.isEmpty = false := by cases h : s.toList with
    | nil => exact absurd h hne
    | cons _ _ => rfl
  have HT := Aside0.mk ht
  have HS1 := Aside0.mk hs1
  have HS2 := Aside0.mk hs2
  have HD := Aside0.mk hd
  have HR0 := Aside0.mk hr0
  have HR1 := Aside0.mk hr1
  have HE := Aside0.mk hend
  have HL1 := Aside0.mk hl1
  have HL2 := Aside0.mk hl2
  have HU := Aside0.mk hun
  have HUB := Aside0.mk hub
  have HB0 := Aside0.mk hb0
  clear ht hs1 hs2 hd hr0 hr1 hend hl1 hl2 hun hub hb0 hne
  have hcv : ∀ W : World, (convert 9 22 (.string s)).run Try.prog W = .ok (.slice (some ⟨W.heap.size, 0, none⟩) s.size (grownCap W s.size 0 5)) (Lib.bytesWorld W 5 s) := fun W => Lib.run_convert_string_bytes W 9 22 5 s Try.underlying9 Try.underlying22 Try.underlying5
  go_enter Try.func4, Try.ntmps4
  go_wp2_with fail
  refine (spec_DrawSeal.calls k A0 c0 l0 t _ HR0.out hc0 HT.out).mono ?_
  rintro e w1 ⟨rfl, hb⟩
  have B1 := Aside0.mk hb
  clear hb
  go_wp2_with fail
  refine (impl_Seal.calls k t _ _ HS1.out).mono ?_
  rintro e w2 ⟨rfl, hb⟩
  have B2 := Aside0.mk (below_step B1.out hb)
  clear hb B1
  go_wp2_with fail
  refine (spec_Seal.calls k t _ _ HS2.out).mono ?_
  rintro e w3 ⟨rfl, hb⟩
  have B3 := Aside0.mk (below_step B2.out hb)
  clear hb B2
  go_wp2_with fail
  refine (laws_lwAt.calls A1 c1 l1 0 (s.size : Int) p _ (Kd.C_below HR1.out (below_step B3.out (bytesWorld_below w3 5 s))) hc1 HL1.out).mono ?_
  rintro e w4 ⟨rfl, hdr⟩
  have B4 := Aside0.mk (below_step (below_step B3.out (bytesWorld_below w3 5 s)) hdr.below)
  obtain ⟨hcells, hfz⟩ := conv_facts w3 s p hp
  obtain ⟨n4, rfl⟩ := hdr.out
  have hcp : ((Lib.bytesWorld w3 5 s).drewN n4).cell? ⟨w3.heap.size, p, none⟩ = some (.int .u8 ((s.data.toList.getD p 0).toNat : Int)) := hcells p hp
  have hfp : ((Lib.bytesWorld w3 5 s).drewN n4).frozen? ⟨w3.heap.size, p, none⟩ = false := hfz
  have HC := Aside0.mk (show ∀ j, j < s.size → ((Lib.bytesWorld w3 5 s).drewN n4).cell? ⟨w3.heap.size, j, none⟩ = some (.int .u8 ((s.data.toList.getD j 0).toNat : Int)) from hcells)
  clear hcells hfz hdr hcv
  generalize (Lib.bytesWorld w3 5 s).drewN n4 = wd at *
  have hB : w.heap.size ≤ w3.heap.size := B3.out.size
  have hp0 : 0 ≤ (p : Int) := by omega
  have hp1 : (p : Int) < (s.size : Int) := by omega
  go_upto_region 10 with (fail)
  go_cut [45] (fun v45 wc => ∃ x45 : Value, v45 = x45 ∧ Aside0 (Below w.heap.size w wc) ∧ Aside0 (∀ j, j < s.size → wc.cell? ⟨w3.heap.size, j, none⟩ = some (.int .u8 (if j = p then Go.bits .xor .u8 ((s.data.toList.getD p 0).toNat : Int) ((1 + v) % 256) else ((s.data.toList.getD j 0).toNat : Int)))))
  case first =>
    go_region_with (go_at_call 17; refine (laws_lwAt.calls A1 c1 l1 1 255 v _ (Kd.C_below HR1.out (by repeat (first | exact B4.out | apply below_drew1 | apply pw_below_drewN))) hc1 HL2.out).mono ?_; rintro e w5 ⟨rfl, hdr⟩; obtain ⟨n5, rfl⟩ := hdr.out)
    all_goals
      go_wp2
      go_meet
      case rel =>
        refine ⟨_, rfl, ⟨by repeat (first | exact B4.out | apply below_drew1 | apply pw_below_drewN | refine below_set ?_ hB)⟩, ⟨fun j hj => ?_⟩⟩
        have hcj := HC.out j hj
        have hb8 : IntKind.u8.wrap (IntKind.i64.wrap (1 + v)) = (1 + v) % 256 := by rw [wrap_u8, IntKind.wrap_i64]; omega
        by_cases e : j = p
        · subst e
          rw [if_pos rfl]
          rw [← hb8]
          have hjl : j < s.data.toList.length := by rw [data_length]; exact hj
          have e9 : s.data.toList.getD j 0 = s.data[j]'hj := by
            rw [List.getD_eq_getElem?_getD, List.getElem?_eq_getElem hjl, Option.getD_some]
            rfl
          rw [e9]
          exact World.cell?_setCell_same (wd.drewN (1 + n5)) _ _ hcj
        · rw [if_neg e]
          refine (World.cell?_setCell_other _ _ _ _ ?_).trans hcj
          intro h
          exact e (congrArg Addr.off h).symm
  case rest =>
    obtain ⟨x45, rfl, B5, HC5⟩ := hcut
    clear HC B4
    go_wp2_with fail
    refine (impl_Unseal.calls k s t 0 0 _ HU.out).mono ?_
    rintro e w6 ⟨rfl, hb⟩
    have B6 := Aside0.mk (below_step B5.out hb)
    have HC6 := Aside0.mk (fun j hj => pw_cell_below hb (HC5.out j hj))
    clear hb B5 HC5
    have hxs : ((s.data.toList.map fun z => (z.toNat : Int)).set p (Go.bits .xor .u8 ((s.data.toList.getD p 0).toNat : Int) ((1 + v) % 256))).length = s.size := by simp
    have hrd : ReadsInt w6 .u8 (some ⟨w3.heap.size, 0, none⟩) s.size ((s.data.toList.map fun z => (z.toNat : Int)).set p (Go.bits .xor .u8 ((s.data.toList.getD p 0).toNat : Int) ((1 + v) % 256))) := by
      refine ⟨hxs, by omega, fun _ => ⟨_, rfl, fun j hj => ?_⟩⟩
      have hcj := HC6.out j hj
      have ha : (⟨w3.heap.size, 0, none⟩ : Addr).add j = ⟨w3.heap.size, j, none⟩ := by rw [Addr.add_lit, Nat.zero_add]
      rw [ha, hcj]
      have hjl : j < s.data.toList.length := by rw [data_length]; exact hj
      rw [set_getD _ _ _ _ (by rw [List.length_map, data_length]; exact hp), map_getD _ _ hjl]
    have hcv2 : ∀ cp : Nat, (convert 22 9 (.slice (some ⟨w3.heap.size, 0, none⟩) s.size cp)).run Try.prog w6 = .ok (.string b) w6 := by
      intro cp
      rw [HB0.out]
      exact string_of_reads Try.underlying22 Try.underlying5 Try.underlying9 hrd
    have hfl31_2 : ∀ (u0_ u1_ u2_ : Value) (W_ : World), (Instr.field 31 (.agg #[u0_, u1_, u2_]) 2).run Try.prog W_ = .ok (u2_) W_ := fun _ _ _ _ => by rfl
    have hu31 := Try.underlying31
    clear hrd hxs HC6 HB0
    go_wp2_with fail
    refine (impl_Unseal.calls k b x y 5 _ HUB.out).mono ?_
    rintro e w7 ⟨rfl, hb⟩
    have B7 := Aside0.mk (below_step B6.out hb)
    clear hb B6
    clear hcv2
    go_wp2_with fail
    refine (spec_DrawCrcMore.calls k A1 c1 l1 c u _ (Kd.C_below HR1.out B7.out) hc1 HD.out).mono ?_
    rintro e wd4 ⟨rfl, hb⟩
    have B4 := Aside0.mk (below_step B7.out hb)
    clear hb B7
    rcases HE.out with hlong | ⟨hshort, q1, q2, q3, q4, q5⟩
    · have hlb : decide (20000 < (t.size : Int) + (u.size : Int)) = true := decide_eq_true (by omega)
      clear hlong HE
      go_wp2
      go_ret
      exact ⟨rfl, B4.out⟩
    · have hlb : decide (20000 < (t.size : Int) + (u.size : Int)) = false := decide_eq_false (by omega)
      have Q1 := Aside0.mk q1
      have Q2 := Aside0.mk q2
      have Q3 := Aside0.mk q3
      have Q4 := Aside0.mk q4
      have Q5 := Aside0.mk q5
      clear hshort q1 q2 q3 q4 q5 HE
      go_wp2_with fail
      refine (impl_CrcMore.calls k c u c1' _ Q1.out).mono ?_
      rintro e wd5 ⟨rfl, hb⟩
      have B5 := Aside0.mk (below_step B4.out hb)
      clear hb B4
      go_wp2_with fail
      refine (spec_CrcMore.calls k c u c1' _ Q2.out).mono ?_
      rintro e wd6 ⟨rfl, hb⟩
      have B6 := Aside0.mk (below_step B5.out hb.below)
      clear hb B5
      go_wp2_with fail
      refine (impl_Crc.calls k t c2 _ Q3.out).mono ?_
      rintro e wd7 ⟨rfl, hb⟩
      have B7 := Aside0.mk (below_step B6.out hb)
      clear hb B6
      go_wp2_with fail
      refine (impl_CrcMore.calls k c2 u c3 _ Q4.out).mono ?_
      rintro e wd8 ⟨rfl, hb⟩
      have B8 := Aside0.mk (below_step B7.out hb)
      clear hb B7
      go_wp2_with fail
      refine (impl_Crc.calls k (t ++ u) c3 _ Q5.out).mono ?_
      rintro e wd9 ⟨rfl, hb⟩
      have B9 := Aside0.mk (below_step B8.out hb)
      clear hb B8
      go_wp2
      go_ret
      exact ⟨by first | rfl | simp, B9.out⟩
end Go.Proofs.Ytnofenbhioepbaa.QFnSeal
