/- Several texts in one. -/
import Derived.Test.YtfeccjjheiillaaKNodeNone2
import Derived.Test.YtfeccjjheiillaaTrial
import Derived.Test.YtfeccjjheiillaaRegG
import Derived.Test.YtfeccjjheiillaaEqs
/- Package node: Put, Trim, Set, Note, Freeze. (fast region) -/
namespace Go.Proofs.Ytfeccjjheiillaa
open Go.RowKit
set_option linter.unusedSimpArgs false
set_option linter.unusedVariables false
set_option maxHeartbeats 4000000
set_option maxRecDepth 100000
theorem ret_pn {p : Option Addr} {a b : Int} (h : a = b) : Ending.returned (.tuple #[.pointer p, .int .i64 a]) = .returned (.tuple #[.pointer p, .int .i64 b]) := by rw [h]
/-- What comes of a node: another one, or nothing was done. -/
def NRes (p : Option Addr) (F : Nat → Prop) (c : Cfg) (x : Ld) (fr : Bool) (y : Ld) (w : World) (p' : Option Addr) (w' : World) : Prop := (∃ F', NodeAt w' p' F' c y false ∧ NStep F fr w w' F' ∧ y.ver = x.ver + 1) ∨ (p' = p ∧ y = x ∧ NodeAt w' p F c x fr ∧ Below w.heap.size w w')
def RetN (p : Option Addr) (F : Nat → Prop) (c : Cfg) (x : Ld) (fr : Bool) (y : Ld) (n : Int) (w : World) (e : Ending) (w' : World) : Prop := ∃ p', e = .returned (.tuple #[.pointer p', .int .i64 n]) ∧ NRes p F c x fr y w p' w'
theorem node_Put (p : Option Addr) (F : Nat → Prop) (c : Cfg) (x : Ld) (fr : Bool) (t v : Int) (w : World) (h : NodeAt w p F c x fr) (hok : c.okC) (hv : 0 ≤ x.ver ∧ x.ver ≤ 1000) :
    Calls Try.prog 63 #[.pointer p, .int .i64 t, .int .i64 v] w (RetN p F c x fr (nput c x t v) (serErr t v) w) := by
  have HN := Lib.hid h
  have HRt := Lib.hid (fun W => series_Right t v W)
  have HM := Lib.hid (node_made p F c x fr w h)
  have HO := Lib.hid (node_own p F c x fr w h hv)
  have HGd : goodS c.smp := ⟨hok.2.1, hok.2.2.1⟩
  clear h
  by_cases he : serErr t v = 0
  · have HY := Lib.hid (show nput c x t v = ⟨putq x.smps c.smp.toNat ⟨t, v⟩, x.past, x.pol, x.ruled, x.ver + 1⟩ from if_pos he)
    have HP := Lib.hid (show putr x.smps c.smp ⟨t, v⟩ = putq x.smps c.smp.toNat ⟨t, v⟩ from by unfold putr; rw [if_pos HGd]; unfold putv; rw [if_pos he])
    rw [he] at HRt ⊢
    clear he
    go_enter Try.func63, Try.ntmps63
    go_wp2_with (first
      | (go_at_call 82; refine (HRt.out _).mono ?_; rintro e w1 ⟨rfl, rfl⟩)
      | (go_at_call 76; refine HM.out.mono ?_; rintro e w1 ⟨rfl, rfl⟩)
      | (go_at_call 96; refine HO.out.mono ?_; rintro e w2 ⟨p1, F1, rfl, h1, s1⟩; obtain ⟨g, gs, ph, FS, rfl, hb, hs, hput⟩ := h1.ser; have HB := Lib.hid hput; have HS := Lib.hid hs; have S1 := Lib.hid s1; have c8 := hb.cellv (i := 8) (v := .pointer (some ⟨gs, 0, none⟩)) rfl; clear h1 hb hs hput s1)
      | (go_at_call 47; refine (serv_Put _ FS _ c.smp ⟨t, v⟩ _ HS.out).mono ?_; rintro e w3 ⟨F3, rfl, k1, k2, k3⟩; obtain ⟨F4, m1, m2, m3⟩ := HB.out _ w3 F3 k1 k2 k3; have M1 := Lib.hid m1; have M2 := Lib.hid m2; have M3 := Lib.hid m3; clear k1 k2 k3 m1 m2 m3 c8))
    go_ret2
    refine ⟨_, rfl, .inl ⟨F4, ?_, S1.out.then M2.out M3.out, by rw [HY.out]⟩⟩
    rw [HY.out, ← HP.out]
    exact M1.out
  · have HY := Lib.hid (show nput c x t v = x from if_neg he)
    have de : (serErr t v != 0) = true := by simpa using he
    have de2 : (serErr t v == 0) = false := by simpa using he
    generalize serErr t v = ER at *
    clear he
    go_enter Try.func63, Try.ntmps63
    go_wp2_with (go_at_call 82; refine (HRt.out _).mono ?_; rintro e w1 ⟨rfl, rfl⟩)
    go_ret2
    exact ⟨_, rfl, .inr ⟨rfl, HY.out, HN.out, Below.refl _ _⟩⟩
def goneq (x : Ld) (t : Int) : Int := (x.smps.length : Int) - ((froms x.smps t).length : Int)
theorem froms_all {y : Smp} {T : List Smp} {t : Int} (hs : Srt (y :: T)) (h : t ≤ y.tick) : froms (y :: T) t = y :: T := by
  unfold froms
  rw [List.filter_eq_self]
  intro a ha
  rcases List.mem_cons.1 ha with rfl | ha
  · simpa using h
  · have := (List.pairwise_cons.1 hs).1 a ha
    simp; omega
theorem froms_less {y : Smp} {T : List Smp} {t : Int} (h : ¬ t ≤ y.tick) : (froms (y :: T) t).length ≤ T.length := by
  unfold froms
  rw [List.filter_cons, if_neg (by simpa using h)]
  exact List.length_filter_le _ _
theorem node_Trim (p : Option Addr) (F : Nat → Prop) (c : Cfg) (x : Ld) (fr : Bool) (t : Int) (w : World) (h : NodeAt w p F c x fr) (hsrt : Srt x.smps) (hv : 0 ≤ x.ver ∧ x.ver ≤ 1000) :
    Calls Try.prog 67 #[.pointer p, .int .i64 t] w (RetN p F c x fr (ntrim x t) (goneq x t) w) := by
  have HN := Lib.hid h
  have HM := Lib.hid (node_made p F c x fr w h)
  have HO := Lib.hid (fun W hW => node_own p F c x fr W hW hv)
  obtain ⟨g, gs, ph, rfl, hb, ⟨FS, hs⟩, -⟩ := h.blk
  have HL := Lib.hid (serv_List _ FS x.smps c.smp w hs)
  have c8 := hb.cellv (i := 8) (v := .pointer (some ⟨gs, 0, none⟩)) rfl
  have HLn := hs.len
  clear h hb hs
  rcases hxs : x.smps with _ | ⟨y, T⟩
  · have HY := Lib.hid (show ntrim x t = x from if_pos (by rw [hxs]; rfl))
    have HG := Lib.hid (show goneq x t = 0 from by unfold goneq; rw [hxs]; rfl)
    rw [hxs] at HL
    clear hxs HLn
    go_enter Try.func67, Try.ntmps67
    go_wp2_with (first
      | (go_at_call 76; refine HM.out.mono ?_; rintro e w1 ⟨rfl, rfl⟩)
      | (go_at_call 20; refine HL.out.mono ?_; rintro e w2 ⟨A2, n2, c2, rfl, ho2, hb2⟩; obtain rfl : n2 = 0 := (ho2.is smp_len).1.symm; have B2 := Lib.hid hb2; clear ho2 hb2))
    go_ret2
    exact ⟨_, ret_pn HG.out.symm, .inr ⟨rfl, HY.out, HN.out.call B2.out, B2.out⟩⟩
  · rw [hxs] at HL HLn hsrt
    have hT : T.length ≤ 255 := by simpa using HLn
    by_cases ht : t ≤ y.tick
    · have HY := Lib.hid (show ntrim x t = x from if_pos (by rw [hxs, froms_all hsrt ht]))
      have HG := Lib.hid (show goneq x t = 0 from by unfold goneq; rw [hxs, froms_all hsrt ht]; omega)
      have dt : decide (t ≤ y.tick) = true := by simpa using ht
      clear hxs HLn ht hsrt
      go_enter Try.func67, Try.ntmps67
      go_wp2_with (first
        | (go_at_call 76; refine HM.out.mono ?_; rintro e w1 ⟨rfl, rfl⟩)
        | (go_at_call 20; refine HL.out.mono ?_; rintro e w2 ⟨A2, n2, c2, rfl, ho2, hb2⟩; have hn2 : n2 = T.length + 1 := (ho2.is smp_len).1.symm; have hn3 : 0 < n2 := (by omega); obtain ⟨b, off, s, rfl, hx0, hbb, t0, t1⟩ := SmpsAre.at_ (ho2.is smp_len) hn3; obtain rfl : y = s := Option.some.inj hx0; have q0 : (n2 == 0) = false := (by simp; omega); have q1 : ((n2 : Int) == 0) = false := (by simp; omega); simp only [Nat.zero_mul, Nat.add_zero] at t0; have B2 := Lib.hid hb2; clear ho2 hb2 t1 hx0 hn2))
      go_ret2
      exact ⟨_, ret_pn HG.out.symm, .inr ⟨rfl, HY.out, HN.out.call B2.out, B2.out⟩⟩
    · have HY := Lib.hid (show ntrim x t = ⟨froms x.smps t, x.past, x.pol, x.ruled, x.ver + 1⟩ from if_neg (by rw [hxs]; have := froms_less (T := T) ht; simp; omega))
      have HG := Lib.hid (show goneq x t = (placeq x.smps t : Int) from by unfold goneq; have := len_froms (by rw [hxs]; exact hsrt) t (l := x.smps); omega)
      have dt : decide (t ≤ y.tick) = false := by simpa using ht
      clear hxs HLn ht hsrt
      generalize goneq x t = GN at *
      go_enter Try.func67, Try.ntmps67
      go_wp2_with (first
        | (go_at_call 76; refine HM.out.mono ?_; rintro e w1 ⟨rfl, rfl⟩)
        | (go_at_call 20; refine HL.out.mono ?_; rintro e w2 ⟨A2, n2, c2, rfl, ho2, hb2⟩; have hn2 : n2 = T.length + 1 := (ho2.is smp_len).1.symm; have hn3 : 0 < n2 := (by omega); obtain ⟨b, off, s, rfl, hx0, hbb, t0, t1⟩ := SmpsAre.at_ (ho2.is smp_len) hn3; obtain rfl : y = s := Option.some.inj hx0; have q0 : (n2 == 0) = false := (by simp; omega); have q1 : ((n2 : Int) == 0) = false := (by simp; omega); simp only [Nat.zero_mul, Nat.add_zero] at t0; have B2 := Lib.hid hb2; have N2 := Lib.hid (HN.out.call hb2); clear ho2 hb2 t1 hx0 hn2)
        | (go_at_call 96; refine (HO.out _ N2.out).mono ?_; rintro e w3 ⟨p1, F1, rfl, h1, s1⟩; obtain ⟨g1, gs1, ph1, FS1, rfl, hb1, hs1, hput⟩ := h1.ser; have HB := Lib.hid hput; have HS := Lib.hid hs1; have S1 := Lib.hid s1; have c18 := hb1.cellv (i := 8) (v := .pointer (some ⟨gs1, 0, none⟩)) rfl; clear h1 hb1 hs1 hput s1 t0)
        | (go_at_call 98; refine (serv_Trim _ FS1 _ c.smp t _ HS.out).mono ?_; rintro e w4 ⟨F3, rfl, k1, k2, k3⟩; obtain ⟨F4, m1, m2, m3⟩ := HB.out _ w4 F3 k1 k2 k3; have M1 := Lib.hid m1; have M2 := Lib.hid m2; have M3 := Lib.hid m3; clear k1 k2 k3 m1 m2 m3 c18))
      go_ret2
      refine ⟨_, ret_pn HG.out.symm, .inl ⟨F4, ?_, (S1.out.then M2.out M3.out).pre B2.out, by rw [HY.out]⟩⟩
      rw [HY.out]
      exact M1.out
theorem node_Note (p : Option Addr) (F : Nat → Prop) (c : Cfg) (x : Ld) (fr : Bool) (a : Adv) (w : World) (h : NodeAt w p F c x fr) (hok : c.okC) (hv : 0 ≤ x.ver ∧ x.ver ≤ 1000) :
    Calls Try.prog 69 #[.pointer p, .agg (rowA a)] w (fun e w' => ∃ p', e = .returned (.pointer p') ∧ NRes p F c x fr (nnote c x a) w p' w') := by
  have B0 := Lib.hid (show Below w.heap.size w (w.alloc (.cells (rowA a) 66)) by go_grown)
  have HM := Lib.hid (node_made p F c x fr _ (h.call B0.out))
  have HO := Lib.hid (node_own p F c x fr _ (h.call B0.out) hv)
  have BX := Lib.hid (Blk.new w 66 (rowA a))
  have HFl := Lib.hid h.lt
  have HH := Lib.hid (show hush x.past c.his a = pushq x.past c.his.toNat a from by unfold hush; rw [if_pos ⟨hok.2.2.2.2.2.1, hok.2.2.2.2.2.2⟩])
  clear h
  go_enter Try.func69, Try.ntmps69
  focus (go_upto_region 4 with (first
      | (go_at_call 76; refine HM.out.mono ?_; rintro e w1 ⟨rfl, rfl⟩)
      | (go_at_call 96; refine HO.out.mono ?_; rintro e w2 ⟨p1, F1, rfl, h1, s1⟩; have X2 := Lib.hid (show Blk w2 w.heap.size 66 (rowA a) from BX.out.upd s1.1 (fun hf => by have := HFl.out _ hf; omega)); obtain ⟨g, gs, ph, FH, rfl, hb, hs, -, -, hadd⟩ := h1.his; have HA := Lib.hid hadd; have HS := Lib.hid hs; have S1 := Lib.hid s1; have HB := Lib.hid hb; clear h1 hb hs hadd s1)))
  refine wp_region_any (by kernel_rfl) ?_; change wpAny _ _ _ _ _ _ _ (World.drew w2); refine any_of_anyG (late := fun j => [5].contains j) (S := fun wS => Below w2.heap.size w2 wS) _ _ _ _ ?_
  have S0 := (Below.refl w2.heap.size w2).drew
  refine anyG_takes (is := [4]) (vs := [_]) (m := 5) (listed2 := #[false, false, false, false, true, false]) (a2 := ⟨#[_, _, _, _, _, _, _, _, _, _, _, _, _, _, _, _, _, _, _], _⟩) (by kernel_rfl) (fun j hj => by first | (simp at hj; done) | (simp at hj; simp; omega)) (by kernel_rfl) (fun _ _ _ _ _ h => h) (Ys.cons rfl (Or.inl ⟨by rfl, fun W1 hW1 => exec_load (ty := 66) (x := .tmp 3) rfl rfl (run_loadAt_blk _ _ _ _ _ _ (X2.out.call hW1) Try.underlying66 rfl (by first | kernel_rfl | exact info_num _))⟩) (Ys.nil)) (S0) (by rfl) (by rfl) ?_
  refine anyG_one (k := 0) (by kernel_rfl) rfl (by rfl) (fun Q2 hQ2 => ?_); go_wp2_with fail; refine hQ2 _ _ (fun _ => S0) ?_; clear hQ2 Q2
  refine anyG_one (k := 1) (by kernel_rfl) rfl (by rfl) (fun Q2 hQ2 => ?_); go_wp2_with fail; refine hQ2 _ _ (fun _ => S0) ?_; clear hQ2 Q2
  refine anyG_one (k := 2) (by kernel_rfl) rfl (by rfl) (fun Q2 hQ2 => ?_); go_wp2_with fail; refine hQ2 _ _ (fun _ => S0) ?_; clear hQ2 Q2
  refine anyG_takes (is := [3]) (vs := [.pointer ph]) (m := 1) (listed2 := #[true, true, true, true, true, false]) (a2 := ⟨#[_, _, _, _, _, _, _, _, _, _, _, _, _, _, _, _, _, _, _], _⟩) (by kernel_rfl) (fun j hj => by first | (simp at hj; done) | (simp at hj; simp; omega)) (by kernel_rfl) (fun _ _ _ _ _ h => h) (Ys.cons rfl (Or.inl ⟨by rfl, fun W1 hW1 => by have c9 := (HB.out.call hW1).cellv (i := 9) (v := .pointer ph) rfl; go_simp⟩) (Ys.nil)) (S0) (by rfl) (by rfl) ?_
  refine anyG_of_any _ _ _ _ (by kernel_rfl) ?_
  refine any_one (k := 5) (by kernel_rfl) rfl (by rfl) (fun Q2 hQ2 => ?_); go_wp2_with (go_at_call 100; refine (history_Add ph FH _ c.his a _ (HS.out.call S0)).mono ?_; rintro e w3 ⟨F3, rfl, k1, k2, k3⟩; obtain ⟨F4, m1, m2, m3⟩ := HA.out _ w3 F3 k1 ((Upd.of_below (S0)).trans k2 (fun k hk => .inl hk)) (fun k hk => (k3 k hk).imp id (fun h => Nat.le_trans (Below.size (S0)) h)); have M1 := Lib.hid m1; have M2 := Lib.hid m2; have M3 := Lib.hid m3; clear k1 k2 k3 m1 m2 m3); (try refine hQ2 _ _ ?_); (try clear hQ2 Q2)
  refine wpAny_done (by kernel_rfl) ?_ _
  have HH2 : hush (bump x).past c.his a = pushq x.past c.his.toNat a := HH.out
  rw [HH2] at M1
  clear HH2
  go_wp2
  go_ret
  exact ⟨_, rfl, .inl ⟨F4, M1.out, (S1.out.then M2.out M3.out).pre B0.out, rfl⟩⟩
/-- A few cells of a block written over. -/
theorem wpList_store_part {P : Program} {ops : Array Oper} {rest : List Oper} {op : Oper} {a : Act} {w : World} {Q : Exit → Act → World → Prop} (hgd : op.guard = none) (ty : TypeId) (x y : Operand) (ho : op.op = .store ty x y)
    (g o : Nat) (t : TypeId) (cs new : Array Value) (hx : a.eval x = .pointer (some ⟨g, o, none⟩)) (hy : a.eval y = .agg new) (hb : Blk w g t cs) (hs : o + new.size ≤ cs.size) (hi : (P.info? ty).map (·.size) = some new.size) (h1 : new.all (·.oneCell') = true)
    (h : ∀ w', Blk w' g t (spl cs o new.toList) → w.grownBy w' (some g) → wpList P ops Q rest (a.put op.dst undef) w') : wpList P ops Q (op :: rest) a w :=
  have hs2 : o + new.toList.length ≤ cs.size := by simpa using hs
  wpList_store_mid hgd ty x y ho g o new hx hy (fun j hj => ⟨by rw [hb.cell, Array.getElem?_eq_getElem (by omega)]; rfl, hb.frozen _⟩) hi h1 (h _ (hb.setCells hs2).1 (hb.setCells hs2).2)
theorem node_Set (p : Option Addr) (F : Nat → Prop) (c : Cfg) (x : Ld) (fr : Bool) (q : Pol) (w : World) (h : NodeAt w p F c x fr) (hv : 0 ≤ x.ver ∧ x.ver ≤ 1000) :
    Calls Try.prog 68 #[.pointer p, (.agg #[.int .i64 q.min, .int .i64 q.max, .int .i64 q.target, .int .i64 q.tol, .int .i64 q.window, .int .i64 q.hold])] w (RetN p F c x fr (nset x q) (polErr q) w) := by
  have B0 := Lib.hid (show Below w.heap.size w (w.alloc (.cells q.row 62)) by go_grown)
  have HC := Lib.hid (fun W => policy_Check q W)
  have BX := Lib.hid (Blk.new w 62 q.row)
  have HFl := Lib.hid h.lt
  have HN := Lib.hid h
  have HM := Lib.hid (fun W hW => node_made p F c x fr W hW)
  have HO := Lib.hid (fun W hW => node_own p F c x fr W hW hv)
  clear h
  by_cases hk : q.okP
  · have HY := Lib.hid (show nset x q = ⟨x.smps, x.past, q, true, x.ver + 1⟩ from if_pos hk)
    rw [polErr_ok hk] at HC ⊢
    clear hk
    go_enter Try.func68, Try.ntmps68
    go_wp2_with (first
      | (refine Blk.load rfl 62 (.tmp 3) rfl _ _ _ _ rfl BX.out Try.underlying62 rfl (by kernel_rfl) ?_)
      | (go_at_call 99; refine (HC.out _).mono ?_; rintro e w1 ⟨rfl, hb1⟩; have E1 := Lib.hid (B0.out.trans (hb1.mono B0.out.size)); have X1 := Lib.hid (BX.out.call hb1); have N1 := Lib.hid (HN.out.call (B0.out.trans (hb1.mono B0.out.size))); clear hb1)
      | (go_at_call 76; refine (HM.out _ N1.out).mono ?_; rintro e w1 ⟨rfl, rfl⟩)
      | (go_at_call 96; refine (HO.out _ N1.out).mono ?_; rintro e w2 ⟨p1, F1, rfl, h1, s1⟩; have X2 := Lib.hid (show Blk w2 w.heap.size 62 q.row from X1.out.upd s1.1 (fun hf => by have := HFl.out _ hf; omega)); obtain ⟨g, gs, ph, rfl, hb, hF, hrow⟩ := h1.row; have HA := Lib.hid hrow; have S1 := Lib.hid s1; have HB := Lib.hid hb; clear h1 hb hrow s1 hF)
      | (refine Blk.load rfl 62 (.tmp 3) rfl _ _ _ _ rfl X2.out Try.underlying62 rfl (by kernel_rfl) ?_)
      | (refine wpList_store_part rfl 62 (.tmp 25) (.tmp 22) rfl g 0 _ _ q.row rfl rfl HB.out (by simp) (by kernel_rfl) (by simp [Value.oneCell']) ?_; intro w9 hb9 hg9; have c6 := hb9.cellv (i := 6) (v := .bool x.ruled) rfl; have f6 := hb9.frozen 6; have HB9 := Lib.hid hb9; have HG9 := Lib.hid hg9; clear hb9 hg9))
    go_ret2
    obtain ⟨k1, k2⟩ := HA.out ⟨x.smps, x.past, q, true, x.ver + 1⟩ false _ (HB9.out.set_ 6 (.bool true)) (((Upd.refl (fun k => k = g) _).grown HG9.out (fun k e => .inl (by injection e with e; exact e.symm))).setCell (p := ⟨g, 6, none⟩) (.inl rfl) _) rfl rfl
    refine ⟨_, rfl, .inl ⟨F1, ?_, (S1.out.then k2 (fun k hk => .inl hk)).pre E1.out, by rw [HY.out]⟩⟩
    rw [HY.out]
    exact k1
  · have HY := Lib.hid (show nset x q = x from if_neg hk)
    rw [polErr_no hk] at HC ⊢
    clear hk
    go_enter Try.func68, Try.ntmps68
    go_wp2_with (first
      | (refine Blk.load rfl 62 (.tmp 3) rfl _ _ _ _ rfl BX.out Try.underlying62 rfl (by kernel_rfl) ?_)
      | (go_at_call 99; refine (HC.out _).mono ?_; rintro e w1 ⟨rfl, hb1⟩; have E1 := Lib.hid (B0.out.trans (hb1.mono B0.out.size)); clear hb1))
    go_ret2
    exact ⟨_, rfl, .inr ⟨rfl, HY.out, HN.out.call E1.out, E1.out⟩⟩
theorem node_Freeze (p : Option Addr) (F : Nat → Prop) (c : Cfg) (x : Ld) (fr : Bool) (w : World) (h : NodeAt w p F c x fr) :
    Calls Try.prog 36 #[.pointer p] w (fun e w' => e = .returned (.pointer p) ∧ NodeAt w' p F c x true ∧ Upd F w w') := by
  have HM := Lib.hid (node_made p F c x fr w h)
  obtain ⟨g, gs, ph, rfl, hb, hF, hr⟩ := h.row
  have c10 := hb.cellv (i := 10) (v := .bool fr) rfl
  have f10 := hb.frozen 10
  have HR := Lib.hid hr
  have HB := Lib.hid hb
  clear h hb hr hF
  go_enter Try.func36, Try.ntmps36
  go_wp2_with (go_at_call 76; refine HM.out.mono ?_; rintro e w1 ⟨rfl, rfl⟩)
  go_ret
  obtain ⟨k1, k2⟩ := HR.out x true _ (show Blk (w.setCell ⟨g, 10, none⟩ (.bool true)) g ndT (nrow x (.pointer (some ⟨gs, 0, none⟩)) (.pointer ph) true) from HB.out.set_ 10 _) ((Upd.refl (fun k => k = g) w).setCell (p := ⟨g, 10, none⟩) (.inl rfl) _) rfl rfl
  exact ⟨rfl, k1, k2⟩
end Go.Proofs.Ytfeccjjheiillaa
/- flywheelref17.Do: the walks. (fast region) -/
namespace Go.Proofs.Ytfeccjjheiillaa
open Go.RowKit
set_option linter.unusedSimpArgs false
set_option linter.unusedVariables false
set_option maxHeartbeats 4000000
set_option maxRecDepth 100000
abbrev ldT : TypeId := 64
abbrev cfT : TypeId := 53
abbrev acT : TypeId := 68
abbrev nilv : Value := .slice none 0 0
/-- What Do has laid. -/
structure DoI (w W : World) (c : Cfg) (x : Ld) (sx hx : Value) (a : NAct) (o : Array Value) : Prop where
  cb : Blk W w.heap.size cfT c.row
  xb : Blk W (w.heap.size + 1) ldT (x.row sx hx)
  ab : Blk W (w.heap.size + 2) acT a.row
  rb : Blk W (w.heap.size + 3) ldT (ld0.row nilv nilv)
  ob : Blk W (w.heap.size + 4) ldT o
  bel : Below w.heap.size w W
section
variable {w W W' : World} {c : Cfg} {x : Ld} {sx hx : Value} {a : NAct} {o : Array Value}
abbrev do0 (w : World) (c : Cfg) (x : Ld) (sx hx : Value) (a : NAct) : World := (((w.alloc (.cells c.row cfT)).alloc (.cells (x.row sx hx) ldT)).alloc (.cells a.row acT)).alloc (.cells (ld0.row nilv nilv) ldT)
theorem DoI.pre (w : World) (c : Cfg) (x : Ld) (sx hx : Value) (a : NAct) : Blk (do0 w c x sx hx a) (w.heap.size + 1) ldT (x.row sx hx) := ((Blk.new2 w _ _ _).alloc _).alloc _
theorem DoI.start (w : World) (c : Cfg) (x : Ld) (sx hx : Value) (a : NAct) : DoI w ((do0 w c x sx hx a).alloc (.cells (ld0.row nilv nilv) ldT)) c x sx hx a (ld0.row nilv nilv) := by
  refine ⟨(((Blk.new w _ _).alloc _).alloc _).alloc _ |>.alloc _, (DoI.pre w c x sx hx a).alloc _, ?_, ?_, ?_, by go_grown⟩
  · have h := Blk.new ((w.alloc (.cells c.row cfT)).alloc (.cells (x.row sx hx) ldT)) acT a.row
    simp only [World.size_alloc] at h
    exact (h.alloc _).alloc _
  · have h := Blk.new (((w.alloc (.cells c.row cfT)).alloc (.cells (x.row sx hx) ldT)).alloc (.cells a.row acT)) ldT (ld0.row nilv nilv)
    simp only [World.size_alloc] at h
    exact h.alloc _
  · have h := Blk.new (do0 w c x sx hx a) ldT (ld0.row nilv nilv)
    simp only [do0, World.size_alloc] at h
    exact h
theorem DoI.store (h : DoI w W c x sx hx a o) {o' : Array Value} (hb : Blk W' (w.heap.size + 4) ldT o') (hg : W.grownBy W' (some (w.heap.size + 4))) : DoI w W' c x sx hx a o' :=
  ⟨h.cb.grown hg (by simp), h.xb.grown hg (by simp), h.ab.grown hg (by simp), h.rb.grown hg (by simp), hb, h.bel.trans (Only.below hg (by omega) h.bel.size)⟩
theorem DoI.call (h : DoI w W c x sx hx a o) (hb : Below W.heap.size W W') : DoI w W' c x sx hx a o :=
  ⟨h.cb.call hb, h.xb.call hb, h.ab.call hb, h.rb.call hb, h.ob.call hb, h.bel.trans (hb.mono h.bel.size)⟩
theorem DoI.set (h : DoI w W c x sx hx a o) (i : Nat) (u : Value) {o' : Array Value} (ho : o.setIfInBounds i u = o') : DoI w (W.setCell ⟨w.heap.size + 4, i, none⟩ u) c x sx hx a o' :=
  ⟨h.cb.far (p := ⟨w.heap.size + 4, i, none⟩) (by show w.heap.size ≠ w.heap.size + 4; omega) u, h.xb.far (p := ⟨w.heap.size + 4, i, none⟩) (by show w.heap.size + 1 ≠ w.heap.size + 4; omega) u, h.ab.far (p := ⟨w.heap.size + 4, i, none⟩) (by show w.heap.size + 2 ≠ w.heap.size + 4; omega) u, h.rb.far (p := ⟨w.heap.size + 4, i, none⟩) (by show w.heap.size + 3 ≠ w.heap.size + 4; omega) u, by rw [← ho]; exact h.ob.set_ i u, h.bel.setCell (by show w.heap.size ≤ w.heap.size + 4; omega) u⟩
end
def ngone (c : Cfg) (x : Ld) (a : NAct) : Int := (x.smps.length : Int) - ((ndo c x a).smps.length : Int)
/-- A load's row in slices. -/
def LdAt (W : World) (x : Ld) (s h : Value) : Prop := ∃ A n cp A2 n2 c2, s = .slice A n cp ∧ h = .slice A2 n2 c2 ∧ SmpsAre W A n cp x.smps ∧ AdvsAre W A2 n2 c2 x.past
theorem LdAt.call {W W' : World} {x : Ld} {s h : Value} (hl : LdAt W x s h) (hb : Below W.heap.size W W') : LdAt W' x s h := by
  obtain ⟨A, n, cp, A2, n2, c2, e1, e2, h1, h2⟩ := hl
  exact ⟨A, n, cp, A2, n2, c2, e1, e2, slice_keep h1 hb, slice_keep h2 hb⟩
/-- A slice that is as it was, or new. -/
def NewSl (w : World) (s s' : Value) : Prop := s' = s ∨ ∀ a n c, s' = .slice (some a) n c → w.heap.size ≤ a.block
def DoS (c : Cfg) (x : Ld) (a : NAct) (s0 h0 : Value) (w : World) (e : Ending) (w' : World) : Prop := ∃ s h, e = .returned (.tuple #[.agg ((ndo c x a).row s h), .int .i64 (nerr a), .int .i64 (ngone c x a)]) ∧ LdAt w' (ndo c x a) s h ∧ Below w.heap.size w w' ∧ NewSl w s0 s ∧ NewSl w h0 h
theorem row_one (x : Ld) (A : Option Addr) (n cp : Nat) (A2 : Option Addr) (n2 c2 : Nat) : (x.row (.slice A n cp) (.slice A2 n2 c2)).all (·.oneCell') = true := by simp [Value.oneCell']
/-- Nothing is done. -/
theorem ref17_Do_no (c : Cfg) (x : Ld) (a : NAct) (A : Option Addr) (n cp : Nat) (A2 : Option Addr) (n2 c2 : Nat) (w : World) (hs : SmpsAre w A n cp x.smps) (hh : AdvsAre w A2 n2 c2 x.past) (hk : ¬ (0 ≤ a.kind ∧ a.kind ≤ 3)) :
    Calls Try.prog 33 #[.agg c.row, .agg (x.row (.slice A n cp) (.slice A2 n2 c2)), .agg a.row] w (DoS c x a (.slice A n cp) (.slice A2 n2 c2) w) := by
  have hy : ndo c x a = x := by unfold ndo; rw [if_neg (by omega), if_neg (by omega), if_neg (by omega), if_neg (by omega)]
  have he : nerr a = 0 := by unfold nerr; rw [if_neg (by omega), if_neg (by omega)]
  have hg : ngone c x a = 0 := by unfold ngone; rw [hy]; omega
  have HQ := Lib.hid (show DoS c x a (.slice A n cp) (.slice A2 n2 c2) w = fun e w' => ∃ s h, e = .returned (.tuple #[.agg (x.row s h), .int .i64 0, .int .i64 0]) ∧ LdAt w' x s h ∧ Below w.heap.size w w' ∧ NewSl w (.slice A n cp) s ∧ NewSl w (.slice A2 n2 c2) h from by unfold DoS; rw [hy, he, hg])
  have HS := Lib.hid hs
  have HH := Lib.hid hh
  have X0 := Lib.hid (DoI.pre w c x (.slice A n cp) (.slice A2 n2 c2) a)
  have I0 := Lib.hid (DoI.start w c x (.slice A n cp) (.slice A2 n2 c2) a)
  have d0 : (a.kind == 0) = false := by simp; omega
  have d1 : (a.kind == 1) = false := by simp; omega
  have d2 : (a.kind == 2) = false := by simp; omega
  have d3 : (a.kind == 3) = false := by simp; omega
  clear hs hh hk hy he hg
  go_enter Try.func33, Try.ntmps33
  go_wp2_with (first
    | (refine Blk.load rfl 64 (.tmp 4) (by with_reducible rfl) _ _ _ _ rfl X0.out Try.underlying64 rfl (by kernel_rfl) ?_)
    | (refine wpList_store_row rfl 64 (.tmp 9) (.tmp 11) rfl (w.heap.size + 4) _ _ _ rfl rfl I0.out.ob (by rfl) (by kernel_rfl) (row_one _ _ _ _ _ _ _) ?_; intro w5 hb5 hg5; have I5 := Lib.hid (I0.out.store hb5 hg5); have a0 := I5.out.ab.cellv (i := 0) (v := .int .i64 a.kind) rfl; clear hb5 hg5)
    | (refine Blk.load rfl 64 (.tmp 4) rfl _ _ _ _ rfl I5.out.xb Try.underlying64 rfl (by kernel_rfl) ?_)
    | (refine wpList_store_row rfl 64 (.tmp 6) (.tmp 14) rfl (w.heap.size + 3) _ _ _ rfl rfl I5.out.rb (by rfl) (by kernel_rfl) (row_one _ _ _ _ _ _ _) ?_; intro w9 hb9 hg9; have B9 := Lib.hid hb9; have E9 := Lib.hid (I5.out.bel.trans (Only.below hg9 (by omega) I5.out.bel.size)); clear hb9 hg9))
  refine bodyPost_ret (results_row_tmp2 rfl _ _ (w.heap.size + 3) _ _ _ rfl B9.out Try.underlying64 rfl (by kernel_rfl)) rfl ?_
  rw [HQ.out]
  exact ⟨_, _, rfl, ⟨_, _, _, _, _, _, rfl, rfl, slice_keep HS.out E9.out, slice_keep HH.out E9.out⟩, E9.out, .inl rfl, .inl rfl⟩
end Go.Proofs.Ytfeccjjheiillaa
/- flywheelref14.Same: whether two lists of decisions are alike. -/
namespace Go.Proofs.Ytfeccjjheiillaa
open Go.RowKit
set_option linter.unusedSimpArgs false
set_option linter.unusedVariables false
set_option maxHeartbeats 2000000
set_option maxRecDepth 100000

def advEq (x y : Adv) : Bool := decide (x = y)
theorem eq_adv (x y : Adv) :
    (∀ (W : World) (op : BinOp) (o1 o2 : Operand), (eqGuard op 66 o1 o2 (.agg #[.int .i64 x.tick, .int .i64 x.load, .int .i64 x.want, .int .i64 x.repl, .int .i64 x.why]) (.agg #[.int .i64 y.tick, .int .i64 y.load, .int .i64 y.want, .int .i64 y.repl, .int .i64 y.why])).run Try.prog W = .ok () W) ∧
    (∀ W : World, (binOp .eql 66 (.agg #[.int .i64 x.tick, .int .i64 x.load, .int .i64 x.want, .int .i64 x.repl, .int .i64 x.why]) (.agg #[.int .i64 y.tick, .int .i64 y.load, .int .i64 y.want, .int .i64 y.repl, .int .i64 y.why])).run Try.prog W = .ok (.bool (advEq x y)) W) ∧
    (∀ W : World, (binOp .neq 66 (.agg #[.int .i64 x.tick, .int .i64 x.load, .int .i64 x.want, .int .i64 x.repl, .int .i64 x.why]) (.agg #[.int .i64 y.tick, .int .i64 y.load, .int .i64 y.want, .int .i64 y.repl, .int .i64 y.why])).run Try.prog W = .ok (.bool (!advEq x y)) W) := by
  refine eq_ints (by kernel_rfl) (by kernel_rfl) (by kernel_rfl) (by kernel_rfl) [.i64, .i64, .i64, .i64, .i64] [x.tick, x.load, x.want, x.repl, x.why] [y.tick, y.load, y.want, y.repl, y.why] (by kernel_rfl) (by kernel_rfl) (by kernel_rfl) _ _ rfl rfl _ ?_
  obtain ⟨a, b, c, d, e⟩ := x
  obtain ⟨a', b', c', d', e'⟩ := y
  unfold advEq
  rw [Bool.eq_iff_iff]
  simp
theorem ref14_Same (A B : Option Addr) (la ca lb cb : Nat) (xs ys : List Adv) (w : World) (hx : AdvsAre w A la ca xs) (hy : AdvsAre w B lb cb ys) :
    Calls Try.prog 74 #[.slice A la ca, .slice B lb cb] w fun e w' => e = .returned (.bool (decide (xs = ys))) ∧ Below w.heap.size w w' := by
  have l1 := hx.1
  have l2 := hy.1
  have m1 : la < 9223372036854775807 ∨ la = 9223372036854775807 := by have := hx.2.1; have := hx.2.2.1; unfold maxLen at *; omega
  by_cases hl : la = lb
  · subst hl
    have HX := Lib.hid hx
    have HY := Lib.hid hy
    have H1 := Lib.hid l1
    have H2 := Lib.hid l2
    clear hx hy l1 l2
    go_enter Try.func74, Try.ntmps74
    go_wp2
    go_loopw [5] (fun i wr => ∃ k : Nat, k ≤ la ∧ i = .int .i64 k ∧ xs.take k = ys.take k ∧ Below w.heap.size w wr) (fun i _ => la - (intOf i).toNat)
    case atStart => exact ⟨0, Nat.zero_le _, rfl, rfl, Below.refl _ _⟩
    case round =>
      obtain ⟨k, hk, rfl, he, hbel⟩ := hrel
      have HE := Lib.hid he
      clear he
      by_cases hlt : k < la
      · obtain ⟨b, off, x, rfl, hx, hb, t0, t1, t2, t3, t4⟩ := HX.out.at_ hlt
        obtain ⟨b2, off2, y, rfl, hy, hb2, s0, s1, s2, s3, s4⟩ := HY.out.at_ hlt
        have HX2 := Lib.hid hx
        have HY2 := Lib.hid hy
        clear hx hy
        have kt0 := (hbel.cell (p := ⟨b, off + k * 5, none⟩) hb).trans t0
        have kt1 := (hbel.cell (p := ⟨b, off + k * 5 + 1, none⟩) hb).trans t1
        have kt2 := (hbel.cell (p := ⟨b, off + k * 5 + 2, none⟩) hb).trans t2
        have kt3 := (hbel.cell (p := ⟨b, off + k * 5 + 3, none⟩) hb).trans t3
        have kt4 := (hbel.cell (p := ⟨b, off + k * 5 + 4, none⟩) hb).trans t4
        have ks0 := (hbel.cell (p := ⟨b2, off2 + k * 5, none⟩) hb2).trans s0
        have ks1 := (hbel.cell (p := ⟨b2, off2 + k * 5 + 1, none⟩) hb2).trans s1
        have ks2 := (hbel.cell (p := ⟨b2, off2 + k * 5 + 2, none⟩) hb2).trans s2
        have ks3 := (hbel.cell (p := ⟨b2, off2 + k * 5 + 3, none⟩) hb2).trans s3
        have ks4 := (hbel.cell (p := ⟨b2, off2 + k * 5 + 4, none⟩) hb2).trans s4
        have hki : (k : Int) < (la : Int) := by omega
        clear hb hb2 t0 t1 t2 t3 t4 s0 s1 s2 s3 s4
        by_cases hxy : x = y
        · subst hxy
          obtain ⟨q1, q2, q3⟩ := eq_adv x x
          have d : advEq x x = true := decide_eq_true rfl
          clear q2
          go_wp2
          go_quiet (fail)
          go_wp2
          go_roundw
          case rel => exact ⟨k + 1, by omega, by go_num, by rw [take_next HX2.out, take_next HY2.out, HE.out], below_drewN hbel nq⟩
          case measure => simp [intOf]; omega
        · have hq : decide (xs = ys) = false := by
            simp only [decide_eq_false_iff_not]
            intro h
            rw [h, HY2.out] at HX2
            exact hxy (Option.some.inj HX2.out).symm
          have d : advEq x y = false := decide_eq_false hxy
          obtain ⟨q1, q2, q3⟩ := eq_adv x y
          have HQ := Lib.hid hq
          clear hq hxy q2
          go_wp2
          go_quiet (fail)
          go_wp2
          go_ret
          exact ⟨by rw [HQ.out]; rfl, below_drewN hbel nq⟩
      · go_wp2
        go_ret
        refine ⟨?_, hbel⟩
        have h1 := HE.out
        rw [List.take_of_length_le (by have := H1.out; omega), List.take_of_length_le (by have := H2.out; omega)] at h1
        rw [h1]; simp
  · have hq : decide (xs = ys) = false := by
      simp only [decide_eq_false_iff_not]
      intro h; subst h; omega
    rw [hq]
    have d : ((la : Int) == (lb : Int)) = false := by simp; omega
    clear hq hx hy l1 l2
    go_enter Try.func74, Try.ntmps74
    go_wp2
    go_ret
    exact ⟨rfl, Below.refl _ _⟩
end Go.Proofs.Ytfeccjjheiillaa
