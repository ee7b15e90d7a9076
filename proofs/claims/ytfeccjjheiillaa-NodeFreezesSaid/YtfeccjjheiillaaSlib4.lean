/- The library's slices.Insert of one sample, at []api.Sample that a call owns. -/
import Derived.Test.YtfeccjjheiillaaSlib3
namespace Go.Proofs.Ytfeccjjheiillaa
open Go.RowKit
set_option linter.unusedSimpArgs false
set_option linter.unusedVariables false
set_option maxHeartbeats 4000000
set_option maxRecDepth 100000
def growRow (w : World) (cur : Array Value) (n i c : Nat) : Array Value := (cur.toList.take (i * 2)).toArray ++ Builtin.zeroCells (Value.agg #[.int .i64 0, .int .i64 0]).cells (n + 1 - i) ++ Builtin.zeroCells (Value.agg #[.int .i64 0, .int .i64 0]).cells (grownCap w (n + 1) c 34 - (n + 1))
theorem zero_len (k : Nat) : (Builtin.zeroCells (Value.agg #[.int .i64 0, .int .i64 0]).cells k).size = k * 2 := by simp [Builtin.zeroCells, Value.cells]
theorem slices_Insert_grow (g n c i vb : Nat) (cur : Array Value) (l : List Smp) (x : Smp) (w : World) (hi : i < n) (hnc : n ≤ c) (hroom : c < n + 1) (hbig : n ≤ 1000000)
    (hb : Blk w g 34 cur) (hcs : cur.size = c * 2) (hl : l.length = n) (htake : cur.toList.take (n * 2) = l.flatMap Smp.cells) (hv : Blk w vb 34 #[.int .i64 x.tick, .int .i64 x.value]) :
    Calls Try.prog 84 #[.slice (some ⟨g, 0, none⟩) n c, .int .i64 i, .slice (some ⟨vb, 0, none⟩) 1 1] w fun e w' =>
      e = .returned (.slice (some ⟨w.heap.size, 0, none⟩) (n + 1) (grownCap w (n + 1) c 34)) ∧ ∃ row, Blk w' w.heap.size 34 row ∧ row.size = grownCap w (n + 1) c 34 * 2 ∧ row.toList.take ((n + 1) * 2) = (l.take i).flatMap Smp.cells ++ (x.cells ++ (l.drop i).flatMap Smp.cells) ∧ Below w.heap.size w w' := by
  obtain ⟨i0, hi0, hz0, hz1, hz2⟩ := info_parts info_smp
  have hze : ((i : Int) == (n : Int)) = false := by simp; omega
  have hdl : ((l.drop i).flatMap Smp.cells).length = (n - i) * 2 := by rw [flatMap_len smp_len, List.length_drop, hl]
  have hdr : (l.drop i).flatMap Smp.cells = (cur.toList.drop (i * 2)).take ((n - i) * 2) := by
    rw [← flat_drop smp_len, ← htake, List.drop_take, Nat.sub_mul]
  have hsz : (Try.prog.info? 34).map (·.size) = some 2 := by kernel_rfl
  have hkk : (n : Int) + 1 - (i : Int) = ((n + 1 - i : Nat) : Int) := by omega
  have hik : i + (n + 1 - i) = n + 1 := by omega
  have hold : (Builtin.firstCells i0.size i (.slice (some ⟨g, 0, none⟩) i c)).run Try.prog w.drew = .ok (cur.toList.take (i * 2)).toArray w.drew := by
    rw [hz1]
    exact run_firstCells_some w.drew 2 i ⟨g, 0, none⟩ i c (cur.toList.take (i * 2)) (by simp; omega) (fun j v hj => by
      rw [Addr.add_lit, Nat.zero_add]
      rw [List.getElem?_take] at hj
      split at hj
      · exact (hb.drew.cell j).trans (by rw [← Array.getElem?_toList]; exact hj)
      · cases hj)
  have hrz : ∀ ty, (Builtin.append_ #[32, 3] ty #[.slice (some ⟨g, 0, none⟩) i c, .int .i64 ((n : Int) + 1 - (i : Int))]).run Try.prog w =
      .ok (.slice (some ⟨w.heap.size, 0, none⟩) (n + 1) (grownCap w (n + 1) c 34)) (w.drew.alloc (.cells (growRow w cur n i c) 34)) := fun ty => by
    have h := Lib.run_append_grow_zeros (P := Try.prog) w 32 3 ty 34 i0 _ .i64 .i64 Try.underlying32 Try.underlying3 hi0 hz0 (some ⟨g, 0, none⟩) i c (cur.toList.take (i * 2)) hold (n + 1 - i) (by omega) (by omega) (by omega) (by omega) (by rw [hz2]; omega) (by rw [hz2, hik]; exact growslice_fits hroom (by omega))
    rw [hik] at h
    rw [hkk]
    exact h
  have hGn : n + 1 ≤ grownCap w (n + 1) c 34 := grownCap_ge w _ _ _
  have hG63 : grownCap w (n + 1) c 34 ≤ 9223372036854775807 := by
    have := grownCap_le_maxLen w (n + 1) c 34 (by unfold maxLen; omega)
    unfold maxLen at this
    omega
  have hRs : (growRow w cur n i c).size = grownCap w (n + 1) c 34 * 2 := by
    unfold growRow
    rw [Array.size_append, Array.size_append, zero_len, zero_len]
    simp; omega
  have hRt : (growRow w cur n i c).toList.take (i * 2) = (l.take i).flatMap Smp.cells := by
    unfold growRow
    rw [Array.toList_append, Array.toList_append, List.append_assoc, List.take_append_of_le_length (by simp; omega), List.toList_toArray, List.take_take, Nat.min_self, ← flat_take smp_len, ← htake, List.take_take, Nat.min_eq_left (by omega)]
  generalize grownCap w (n + 1) c 34 = G at *
  generalize growRow w cur n i c = ROW at *
  obtain ⟨W1, hW1⟩ : ∃ W1, W1 = w.drew.alloc (.cells ROW 34) := ⟨_, rfl⟩
  have b1 : Blk W1 w.heap.size 34 ROW := by rw [hW1]; exact Blk.new w.drew _ _
  have o1 : Blk W1 g 34 cur := by rw [hW1]; exact hb.drew.alloc _
  have v1 : Blk W1 vb 34 #[.int .i64 x.tick, .int .i64 x.value] := by rw [hW1]; exact hv.drew.alloc _
  have e1 : Below w.heap.size w W1 := by rw [hW1]; exact (Below.refl _ w).drew.alloc (Nat.le_refl _) _
  rw [← hW1] at hrz
  have hf1 : i * 2 + x.cells.length ≤ ROW.size := by rw [smp_len, hRs]; omega
  have hcpA : ∀ ty dc, (Builtin.copy_ #[32, 32] ty #[.slice (some ⟨w.heap.size, i * 2, none⟩) (n + 1 - i) dc, .slice (some ⟨vb, 0, none⟩) 1 1]).run Try.prog W1 = .ok (goInt (Nat.min 1 (n + 1 - i))) (W1.setCells w.heap.size (i * 2) x.cells) := fun ty dc =>
    run_copy_blk W1 _ _ ty 34 2 w.heap.size (i * 2) (n + 1 - i) dc ⟨vb, 0, none⟩ 1 1 x.cells Try.underlying32 hsz (by rw [smp_len]; simp only [Nat.min_def]; split <;> omega)
      (fun j v hj => by rw [Addr.add_lit, Nat.zero_add]; exact (v1.cell j).trans (by rw [show (#[.int .i64 x.tick, .int .i64 x.value] : Array Value) = x.cells.toArray from rfl]; simpa using hj)) b1 hf1 (smp_one x)
  obtain ⟨b2, g2⟩ := Blk.setCells b1 hf1
  obtain ⟨W2, hW2⟩ : ∃ W2, W2 = W1.setCells w.heap.size (i * 2) x.cells := ⟨_, rfl⟩
  rw [← hW2] at hcpA b2 g2
  have hgN : g ≠ w.heap.size := by have := hb.lt; omega
  have o2 : Blk W2.drew g 34 cur := (o1.grown g2 (fun e => hgN (Option.some.inj e))).drew
  have hf2 : (i + 1) * 2 + ((l.drop i).flatMap Smp.cells).length ≤ (spl ROW (i * 2) x.cells).size := by rw [hdl, spl_size hf1, hRs]; omega
  have hcpB : ∀ ty dc sc, (Builtin.copy_ #[32, 32] ty #[.slice (some ⟨w.heap.size, (i + 1) * 2, none⟩) (n - i) dc, .slice (some ⟨g, i * 2, none⟩) (n - i) sc]).run Try.prog W2.drew = .ok (goInt (Nat.min (n - i) (n - i))) (W2.drew.setCells w.heap.size ((i + 1) * 2) ((l.drop i).flatMap Smp.cells)) := fun ty dc sc =>
    run_copy_blk W2.drew _ _ ty 34 2 w.heap.size ((i + 1) * 2) (n - i) dc ⟨g, i * 2, none⟩ (n - i) sc _ Try.underlying32 hsz (by rw [hdl]; simp only [Nat.min_def]; split <;> omega)
      (fun j v hj => by
        have hlt := (List.getElem?_eq_some_iff.1 hj).1
        rw [hdr, List.getElem?_take, if_pos (by omega), List.getElem?_drop] at hj
        rw [Addr.add_lit]
        exact (o2.cell _).trans (by rw [← Array.getElem?_toList]; exact hj)) b2.drew hf2 (smps_one _)
  obtain ⟨b3, g3⟩ := Blk.setCells b2.drew hf2
  have HE := Lib.hid (show Below w.heap.size w (W2.drew.setCells w.heap.size ((i + 1) * 2) ((l.drop i).flatMap Smp.cells)) from (((e1.grown g2 e1.size (fun k e => by cases e; exact Nat.le_refl _)).drew).grown g3 (Nat.le_trans e1.size g2.size) (fun k e => by cases e; exact Nat.le_refl _)))
  have HB := Lib.hid b3
  have HSz := Lib.hid (show (spl (spl ROW (i * 2) x.cells) ((i + 1) * 2) ((l.drop i).flatMap Smp.cells)).size = G * 2 by rw [spl_size hf2, spl_size hf1, hRs])
  have HTk := Lib.hid (show (spl (spl ROW (i * 2) x.cells) ((i + 1) * 2) ((l.drop i).flatMap Smp.cells)).toList.take ((n + 1) * 2) = (l.take i).flatMap Smp.cells ++ (x.cells ++ (l.drop i).flatMap Smp.cells) by
    rw [spl_take hf2 _ (by rw [hdl]; omega), spl_take hf1 _ (by rw [smp_len]; omega), hRt, List.append_assoc])
  have hGi : ¬ (G = i) := by omega
  have hGim : ¬ (G = i + 1) := by omega
  have hci : ¬ (c = i) := by omega
  have hw1 : IntKind.i64.wrap ((i : Int) + 1) = (i : Int) + 1 := by rw [IntKind.wrap_i64]; omega
  have hb1 : (0 : Int) ≤ (i : Int) + 1 := by omega
  have hin : i ≤ n := by omega
  have htn : ((i : Int) + 1).toNat = i + 1 := by omega
  have hb3 : (i : Int) ≤ (n : Int) := by omega
  have hlt2 : (c : Int) < (n : Int) + 1 := by omega
  have hcm : c ≤ 9223372036854775807 := by omega
  clear hkk hik hold hRs hRt hdl hdr htake hb hv hcs hl b1 o1 v1 e1 hf1 b2 g2 o2 hf2 b3 g3 hW1 hW2 hi0 hz0 hz1 hz2 hsz hgN
  go_enter Try.func84, Try.ntmps84
  go_wp2_with (first
    | (at_builtin; refine Lib.wpList_append_run _ rfl _ _ _ _ rfl _ _ rfl rfl _ _ (hrz _) ?_)
    | (at_builtin; refine Go.Proofs.wpList_copy_runI _ rfl _ _ 32 32 rfl _ _ rfl rfl (hcpA _ _) ?_))
  go_region_law (refine Go.Proofs.step_copy_runI rfl _ _ 32 32 rfl (.slice (some ⟨w.heap.size, (i + 1) * 2, none⟩) (n - i) (G - (i + 1))) (.slice (some ⟨g, i * 2, none⟩) (n - i) (c - i)) (by simp [Act.eval, Act.put]) (by simp [Act.eval, Act.put]) (hcpB _ _ _) ?_)
  go_wp2
  go_ret
  exact ⟨rfl, _, HB.out, HSz.out, HTk.out, HE.out⟩
def InsS (base : Nat) (v : Value) (l : List Smp) (w : World) (e : Ending) (w' : World) : Prop := ∃ v', e = .returned v' ∧ OwnS w' base v' l ∧ (v'.ownBlock = v.ownBlock ∨ v'.ownBlock = some w.heap.size) ∧ Upd (fun k => v.ownBlock = some k) w w'
theorem slices_Insert_end {base : Nat} (A : Option Addr) (n c vb : Nat) (l : List Smp) (x : Smp) (w : World) (h : OwnS w base (.slice A n c) l) (hn : n = l.length) (hl : n ≤ 100000) (hnc : n ≤ c) (hc : c ≤ 9223372036854775807) (hbase : base ≤ w.heap.size) (hv : Blk w vb 34 #[.int .i64 x.tick, .int .i64 x.value]) :
    Calls Try.prog 84 #[.slice A n c, .int .i64 n, .slice (some ⟨vb, 0, none⟩) 1 1] w (InsS base (.slice A n c) (l ++ [x]) w) := by
  by_cases hcn : n = c
  · subst hcn
    have HO := Lib.hid h
    have HV := Lib.hid (blk_news (α := Smp) (vs := x.cells) hv rfl)
    have hlen : l.length < 1000000 := by omega
    clear h hv hn
    go_enter Try.func84, Try.ntmps84
    go_wp2_with (at_builtin; refine wpList_push2 _ rfl (.tmp 23) (.tmp 24) 32 rfl base 34 _ 2 16 _ Try.underlying32 info_smp (by rfl) (by decide) (fun _ => rfl) smp_one (.slice A n n) l rfl HO.out ⟨vb, 0, none⟩ 1 x rfl HV.out hlen (by decide) hbase ?_; intro v' w1 ho hu hw; have H1 := Lib.hid ho; have H2 := Lib.hid hu; have H3 := Lib.hid hw; clear ho hu hw)
    go_ret
    exact ⟨_, rfl, H1.out, H3.out, H2.out⟩
  · have hcn2 : ¬ (c = n) := fun e => hcn e.symm
    have HO := Lib.hid h
    have HV := Lib.hid (blk_news (α := Smp) (vs := x.cells) hv rfl)
    have hlen : l.length < 1000000 := by omega
    clear h hv hn hcn
    go_enter Try.func84, Try.ntmps84
    go_wp2_with (at_builtin; refine wpList_push2 _ rfl (.tmp 23) (.tmp 24) 32 rfl base 34 _ 2 16 _ Try.underlying32 info_smp (by rfl) (by decide) (fun _ => rfl) smp_one (.slice A n c) l rfl HO.out ⟨vb, 0, none⟩ 1 x rfl HV.out hlen (by decide) hbase ?_; intro v' w1 ho hu hw; have H1 := Lib.hid ho; have H2 := Lib.hid hu; have H3 := Lib.hid hw; clear ho hu hw)
    go_ret
    exact ⟨_, rfl, H1.out, H3.out, H2.out⟩
/-- One sample put in at a place. -/
theorem slices_Insert {base : Nat} (v : Value) (l : List Smp) (i vb : Nat) (x : Smp) (w : World) (h : OwnS w base v l) (hl : l.length ≤ 100000) (hi : i ≤ l.length) (hbase : base ≤ w.heap.size)
    (hv : Blk w vb 34 #[.int .i64 x.tick, .int .i64 x.value]) (hvb : v.ownBlock ≠ some vb) :
    Calls Try.prog 84 #[v, .int .i64 i, .slice (some ⟨vb, 0, none⟩) 1 1] w (InsS base v (l.take i ++ x :: l.drop i) w) := by
  by_cases he : i = l.length
  · subst he
    rw [List.take_length, List.drop_length]
    obtain ⟨A, n, c, rfl, hn, hs⟩ := h.shape smp_len
    have hh := slices_Insert_end A n c vb l x w h hn (by omega) hs.2.1 (by have := hs.2.2.1; unfold maxLen at this; omega) hbase hv
    rw [hn] at hh
    rw [← hn] at hh ⊢
    exact hh
  · rcases h.2 with ⟨rfl, hn⟩ | ⟨g, cap, cur, rfl, hbg, hg, hnc, hcm, hcs, htake⟩
    · omega
    · have hb : Blk w g 34 cur := hg
      have hne : vb ≠ g := fun e => hvb (by rw [e]; rfl)
      have hdl : ((l.drop i).flatMap Smp.cells).length = (l.length - i) * 2 := by rw [flatMap_len smp_len, List.length_drop]
      have hnew : (l.take i ++ x :: l.drop i).length = l.length + 1 := by simp; omega
      by_cases hr : l.length + 1 ≤ cap
      · refine (slices_Insert_shift g l.length cap i vb cur l x w (by omega) hr (by unfold maxLen at hcm; omega) hne hb hcs rfl htake hv).mono ?_
        rintro e w' ⟨rfl, rfl⟩
        have hf1 : (i + 1) * 2 + ((l.drop i).flatMap Smp.cells).length ≤ cur.size := by rw [hdl, hcs]; omega
        obtain ⟨b1, g1⟩ := Blk.setCells hb.drew hf1
        have hf2 : i * 2 + x.cells.length ≤ (spl cur ((i + 1) * 2) ((l.drop i).flatMap Smp.cells)).size := by rw [spl_size hf1, smp_len, hcs]; omega
        obtain ⟨b2, g2⟩ := Blk.setCells b1 hf2
        refine ⟨_, rfl, ⟨by simp only [flatMap_len smp_len], .inr ⟨g, cap, _, by rw [hnew], hbg, b2, by omega, hcm, by rw [spl_size hf2, spl_size hf1, hcs], ?_⟩⟩, .inl rfl, ?_⟩
        · rw [hnew]
          unfold spl
          have e1 : (cur.toList.take ((i + 1) * 2) ++ ((l.drop i).flatMap Smp.cells ++ cur.toList.drop ((i + 1) * 2 + ((l.drop i).flatMap Smp.cells).length))).take (i * 2) = (l.take i).flatMap Smp.cells := by
            rw [List.take_append_of_le_length (by simp; omega), List.take_take, Nat.min_eq_left (by omega), ← flat_take smp_len, ← htake, List.take_take, Nat.min_eq_left (by omega)]
          have e2 : (cur.toList.take ((i + 1) * 2) ++ ((l.drop i).flatMap Smp.cells ++ cur.toList.drop ((i + 1) * 2 + ((l.drop i).flatMap Smp.cells).length))).drop (i * 2 + x.cells.length) = (l.drop i).flatMap Smp.cells ++ cur.toList.drop ((i + 1) * 2 + ((l.drop i).flatMap Smp.cells).length) := by
            rw [List.drop_append_of_le_length (by simp [smp_len]; omega), smp_len, List.drop_of_length_le (by simp; omega), List.nil_append]
          simp only [List.toList_toArray]
          rw [e1, e2, List.flatMap_append, List.flatMap_cons, ← List.append_assoc, ← List.append_assoc]
          rw [List.take_append_of_le_length (by simp only [List.length_append, flatMap_len smp_len, smp_len, List.length_take, List.length_drop]; omega), List.take_of_length_le (by simp only [List.length_append, flatMap_len smp_len, smp_len, List.length_take, List.length_drop]; omega)]
          rw [List.append_assoc]
        · exact ((Upd.refl _ w).drew.grown g1 (fun k e => by cases e; exact .inl rfl)).grown g2 (fun k e => by cases e; exact .inl rfl)
      · refine (slices_Insert_grow g l.length cap i vb cur l x w (by omega) hnc (by omega) (by omega) hb hcs rfl htake hv).mono ?_
        rintro e w' ⟨rfl, row, hrow, hrs, hrt, hbel⟩
        refine ⟨_, rfl, ⟨by simp only [flatMap_len smp_len], .inr ⟨w.heap.size, _, row, by rw [hnew], hbase, hrow, by rw [hnew]; exact grownCap_ge _ _ _ _, grownCap_le_maxLen w _ _ _ (by unfold maxLen; omega), hrs, ?_⟩⟩, .inr rfl, Upd.of_below hbel⟩
        rw [hnew, hrt, List.flatMap_append, List.flatMap_cons]
end Go.Proofs.Ytfeccjjheiillaa
