/- Several texts in one. -/
import Derived.Test.YtfeccjjheiillaaKNodeNone4
/- flywheelref17.Do: a change is made. (fast region) -/
namespace Go.Proofs.Ytfeccjjheiillaa
open Go.RowKit
set_option linter.unusedSimpArgs false
set_option linter.unusedVariables false
set_option maxHeartbeats 4000000
set_option maxRecDepth 100000
theorem ref17_Do_set_no (c : Cfg) (x : Ld) (a : NAct) (A : Option Addr) (n cp : Nat) (A2 : Option Addr) (n2 c2 : Nat) (w : World) (hs : SmpsAre w A n cp x.smps) (hh : AdvsAre w A2 n2 c2 x.past) (hc : c.okC) (k : Nat) (hx : LdOk c x k) (hk : k ≤ 100) (ha : a.kind = 2) (he : ¬ a.pol.okP) :
    Calls Try.prog 33 #[.agg c.row, .agg (x.row (.slice A n cp) (.slice A2 n2 c2)), .agg a.row] w (DoS c x a (.slice A n cp) (.slice A2 n2 c2) w) := by
  have HS := Lib.hid hs
  have HH := Lib.hid hh
  have X0 := Lib.hid (DoI.pre w c x (.slice A n cp) (.slice A2 n2 c2) a)
  have I0 := Lib.hid (DoI.start w c x (.slice A n cp) (.slice A2 n2 c2) a)
  have hn : n ≤ 256 := by rw [← hs.1]; have := hx.slen; have := hc.2.2.1; omega
  have hn2 : n2 ≤ 64 := by rw [← hh.1]; have := hx.plen; have := hc.2.2.2.2.2.2; omega
  have hnl : x.smps.length = n := hs.1
  have HNL := Lib.hid hnl
  have v0 := hx.v0
  have v1 : x.ver ≤ 100 := by have := hx.v1; omega
  have hy : ndo c x a = x := by unfold ndo; rw [if_neg (by omega), if_neg (by omega), if_pos ha]; exact if_neg he
  have hE : nerr a = 7 := by unfold nerr; rw [if_neg (by omega), if_pos ha, polErr_no he]
  have HQ := Lib.hid (DoS.eq (s0 := .slice A n cp) (h0 := .slice A2 n2 c2) (w := w) hy hE)
  have HZ := Lib.hid (show (x.smps.length : Int) - (x.smps.length : Int) = 0 by omega)
  rw [HZ.out] at HQ
  have HC := Lib.hid (fun W => ref_Right a.pol W)
  rw [polOk_false he] at HC
  obtain ⟨kind, tick, value, pol, adv⟩ := a
  obtain rfl : kind = 2 := ha
  simp only at HC HQ
  clear hs hh hx hc he hy hE hnl
  go_enter Try.func33, Try.ntmps33
  go_wp2_with (first
    | (refine Blk.load rfl 64 (.tmp 4) (by with_reducible rfl) _ _ _ _ rfl X0.out Try.underlying64 rfl (by kernel_rfl) ?_)
    | (refine wpList_store_row rfl 64 (.tmp 9) (.tmp 11) rfl (w.heap.size + 4) _ _ _ rfl rfl I0.out.ob (by rfl) (by kernel_rfl) (row_one _ _ _ _ _ _ _) ?_; intro w5 hb5 hg5; have I5 := Lib.hid (I0.out.store hb5 hg5); have a0 := I5.out.ab.cellv (i := 0) (v := .int .i64 2) rfl; have a3 := I5.out.ab.cellv (i := 3) (v := .int .i64 pol.min) rfl; have a4 := I5.out.ab.cellv (i := 4) (v := .int .i64 pol.max) rfl; have a5 := I5.out.ab.cellv (i := 5) (v := .int .i64 pol.target) rfl; have a6 := I5.out.ab.cellv (i := 6) (v := .int .i64 pol.tol) rfl; have a7 := I5.out.ab.cellv (i := 7) (v := .int .i64 pol.window) rfl; have a8 := I5.out.ab.cellv (i := 8) (v := .int .i64 pol.hold) rfl; clear hb5 hg5)
    | (go_at_call 71; refine (HC.out _).mono ?_; rintro e w6 ⟨rfl, hb6⟩; have I6 := Lib.hid (I5.out.call hb6); clear hb6)
    | (refine Blk.load rfl 64 (.tmp 4) rfl _ _ _ _ rfl I6.out.xb Try.underlying64 rfl (by kernel_rfl) ?_)
    | (refine wpList_store_row rfl 64 (.tmp 6) (.tmp 59) rfl (w.heap.size + 3) _ _ _ rfl rfl I6.out.rb (by rfl) (by kernel_rfl) (row_one _ _ _ _ _ _ _) ?_; intro w9 hb9 hg9; have B9 := Lib.hid hb9; have E9 := Lib.hid (I6.out.bel.trans (Only.below hg9 (by omega) I6.out.bel.size)); clear hb9 hg9))
  refine bodyPost_ret (results_row_tmp2 rfl _ _ (w.heap.size + 3) _ _ _ rfl B9.out Try.underlying64 rfl (by kernel_rfl)) rfl ?_
  rw [HQ.out]
  exact ⟨_, _, rfl, ⟨_, _, _, _, _, _, rfl, rfl, slice_keep HS.out E9.out, slice_keep HH.out E9.out⟩, E9.out, .inl rfl, .inl rfl⟩
theorem ref17_Do_set (c : Cfg) (x : Ld) (a : NAct) (A : Option Addr) (n cp : Nat) (A2 : Option Addr) (n2 c2 : Nat) (w : World) (hs : SmpsAre w A n cp x.smps) (hh : AdvsAre w A2 n2 c2 x.past) (hc : c.okC) (k : Nat) (hx : LdOk c x k) (hk : k ≤ 100) (ha : a.kind = 2) (he : a.pol.okP) :
    Calls Try.prog 33 #[.agg c.row, .agg (x.row (.slice A n cp) (.slice A2 n2 c2)), .agg a.row] w (DoS c x a (.slice A n cp) (.slice A2 n2 c2) w) := by
  have HS := Lib.hid hs
  have HH := Lib.hid hh
  have X0 := Lib.hid (DoI.pre w c x (.slice A n cp) (.slice A2 n2 c2) a)
  have I0 := Lib.hid (DoI.start w c x (.slice A n cp) (.slice A2 n2 c2) a)
  have hn : n ≤ 256 := by rw [← hs.1]; have := hx.slen; have := hc.2.2.1; omega
  have hn2 : n2 ≤ 64 := by rw [← hh.1]; have := hx.plen; have := hc.2.2.2.2.2.2; omega
  have hnl : x.smps.length = n := hs.1
  have HNL := Lib.hid hnl
  have v0 := hx.v0
  have v1 : x.ver ≤ 100 := by have := hx.v1; omega
  have hy : ndo c x a = ⟨x.smps, x.past, a.pol, true, x.ver + 1⟩ := by unfold ndo; rw [if_neg (by omega), if_neg (by omega), if_pos ha]; exact if_pos he
  have hE : nerr a = 0 := by unfold nerr; rw [if_neg (by omega), if_pos ha, polErr_ok he]
  have HQ := Lib.hid (DoS.eq (s0 := .slice A n cp) (h0 := .slice A2 n2 c2) (w := w) hy hE)
  have HC := Lib.hid (fun W => ref_Right a.pol W)
  rw [polOk_true he] at HC
  obtain ⟨kind, tick, value, pol, adv⟩ := a
  obtain rfl : kind = 2 := ha
  simp only at HC HQ
  clear hs hh hx hc he hy hE hnl
  go_enter Try.func33, Try.ntmps33
  focus (go_upto_region 21 with (first
    | (refine Blk.load rfl 64 (.tmp 4) (by with_reducible rfl) _ _ _ _ rfl X0.out Try.underlying64 rfl (by kernel_rfl) ?_)
    | (refine wpList_store_row rfl 64 (.tmp 9) (.tmp 11) rfl (w.heap.size + 4) _ _ _ rfl rfl I0.out.ob (by rfl) (by kernel_rfl) (row_one _ _ _ _ _ _ _) ?_; intro w5 hb5 hg5; have I5 := Lib.hid (I0.out.store hb5 hg5); have a0 := I5.out.ab.cellv (i := 0) (v := .int .i64 2) rfl; have a3 := I5.out.ab.cellv (i := 3) (v := .int .i64 pol.min) rfl; have a4 := I5.out.ab.cellv (i := 4) (v := .int .i64 pol.max) rfl; have a5 := I5.out.ab.cellv (i := 5) (v := .int .i64 pol.target) rfl; have a6 := I5.out.ab.cellv (i := 6) (v := .int .i64 pol.tol) rfl; have a7 := I5.out.ab.cellv (i := 7) (v := .int .i64 pol.window) rfl; have a8 := I5.out.ab.cellv (i := 8) (v := .int .i64 pol.hold) rfl; clear hb5 hg5)
    | (go_at_call 71; refine (HC.out _).mono ?_; rintro e w7 ⟨rfl, hb6⟩; have I7 := Lib.hid (I5.out.call hb6); have b3 := I7.out.ab.cellv (i := 3) (v := .int .i64 pol.min) rfl; have b4 := I7.out.ab.cellv (i := 4) (v := .int .i64 pol.max) rfl; have b5 := I7.out.ab.cellv (i := 5) (v := .int .i64 pol.target) rfl; have b6 := I7.out.ab.cellv (i := 6) (v := .int .i64 pol.tol) rfl; have b7 := I7.out.ab.cellv (i := 7) (v := .int .i64 pol.window) rfl; have b8 := I7.out.ab.cellv (i := 8) (v := .int .i64 pol.hold) rfl; clear hb6 a3 a4 a5 a6 a7 a8)
    | (refine wpList_store_part rfl 62 (.tmp 62) (.tmp 61) rfl (w.heap.size + 4) 2 _ _ pol.row rfl rfl I7.out.ob (by simp) (by kernel_rfl) (by simp [Value.oneCell']) ?_; intro w8 hb8 hg8; have I8 := Lib.hid (I7.out.store hb8 hg8); have o8 := I8.out.ob.cellv (i := 8) (v := .bool x.ruled) rfl; have f8 := I8.out.ob.frozen 8; have o9 := I8.out.ob.cellv (i := 9) (v := .int .i64 x.ver) rfl; have f9 := I8.out.ob.frozen 9; have x9 := I8.out.xb.cellv (i := 9) (v := .int .i64 x.ver) rfl; clear hb8 hg8 b3 b4 b5 b6 b7 b8)))
  have HGN := Lib.hid (show ((x.smps.length : Int) - (x.smps.length : Int)) = 0 by omega)
  clear o8 f8 o9 f9 x9
  have I6 := Lib.hid ((I8.out.set 8 (.bool true) rfl).set 9 (.int .i64 (x.ver + 1)) (o' := (⟨x.smps, x.past, pol, true, x.ver + 1⟩ : Ld).row (.slice A n cp) (.slice A2 n2 c2)) rfl)
  generalize (w8.setCell ⟨w.heap.size + 4, 8, none⟩ (.bool true)).setCell ⟨w.heap.size + 4, 9, none⟩ (.int .i64 (x.ver + 1)) = w6 at *
  clear a0
  refine wp_region_any (by kernel_rfl) ?_; change wpAny _ _ _ _ _ _ _ (World.drew w6); refine any_of_anyG (late := fun _ => false) (S := fun wS => Upd (fun k => k = w.heap.size + 3) w6 wS) _ _ _ _ ?_
  have S0 := (Upd.refl (fun k => k = w.heap.size + 3) w6).drew
  refine anyG_takes (is := [0, 1, 2, 3, 4]) (vs := [_, _, .slice A n cp, .int .i64 n, _]) (m := 6) (listed2 := #[true, true, true, true, true, false, false, false, false, false, false]) (a2 := ⟨#[_, _, _, _, _, _, _, _, _, _, _, _, _, _, _, _, _, _, _, _, _, _, _, _, _, _, _, _, _, _, _, _, _, _, _, _, _, _, _, _, _, _, _, _, _, _, _, _, _, _, _, _, _, _, _, _, _, _, _, _, _, _, _, _, _, _, _, _, _, _, _, _, _, _, _, _, _, _, _, _, _, _, _, _, _, _], _⟩) (by kernel_rfl) (fun j hj => by simp at hj) (by kernel_rfl) (fun _ _ _ _ _ h => h) (Ys.cons rfl (Or.inl ⟨by rfl, fun W1 hW1 => exec_load (ty := 64) (x := .tmp 9) rfl rfl (run_loadAt_blk _ _ _ _ _ _ (I6.out.ob.upd hW1 (by show ¬ w.heap.size + 4 = w.heap.size + 3; omega)) Try.underlying64 rfl (by first | kernel_rfl | exact info_num _))⟩) (Ys.cons rfl (Or.inl ⟨by rfl, fun W1 hW1 => by first | rfl | (go_simp; done) | (go_simp; with_reducible rfl)⟩) (Ys.cons rfl (Or.inl ⟨by rfl, fun W1 hW1 => by have c := (I6.out.xb.upd hW1 (by show ¬ w.heap.size + 1 = w.heap.size + 3; omega)).cellv (i := 0) (v := .slice A n cp) rfl; go_simp⟩) (Ys.cons rfl (Or.inl ⟨by rfl, fun W1 hW1 => by first | rfl | (go_simp; done)⟩) (Ys.cons rfl (Or.inl ⟨by rfl, fun W1 hW1 => by first | rfl | (go_simp; done) | (go_simp; with_reducible rfl)⟩) (Ys.nil)))))) (S0) (by rfl) (by rfl) ?_
  refine anyG_takes (is := [5, 6, 7]) (vs := [.slice A n cp, .int .i64 n, .int .i64 (0)]) (m := 3) (listed2 := #[true, true, true, true, true, true, true, true, false, false, false]) (a2 := ⟨#[_, _, _, _, _, _, _, _, _, _, _, _, _, _, _, _, _, _, _, _, _, _, _, _, _, _, _, _, _, _, _, _, _, _, _, _, _, _, _, _, _, _, _, _, _, _, _, _, _, _, _, _, _, _, _, _, _, _, _, _, _, _, _, _, _, _, _, _, _, _, _, _, _, _, _, _, _, _, _, _, _, _, _, _, _, _], _⟩) (by kernel_rfl) (fun j hj => by simp at hj) (by kernel_rfl) (fun _ _ _ _ _ h => h) (Ys.cons rfl (Or.inl ⟨by rfl, fun W1 hW1 => by have c := (I6.out.ob.upd hW1 (by show ¬ w.heap.size + 4 = w.heap.size + 3; omega)).cellv (i := 0) (v := .slice A n cp) rfl; go_simp⟩) (Ys.cons rfl (Or.inl ⟨by rfl, fun W1 hW1 => by first | rfl | (go_simp; done)⟩) (Ys.cons rfl (Or.inl ⟨by rfl, fun W1 hW1 => by first | (go_simp; done) | (go_simp; exact IntWalk.i64_in _ (by omega))⟩) (Ys.nil)))) (S0) (by rfl) (by rfl) ?_
  refine anyG_one (k := 8) (by kernel_rfl) rfl (by rfl) (fun Q2 hQ2 => ?_); go_wp2_with (refine wpList_store_row rfl 64 (.tmp 6) (.tmp 78) rfl (w.heap.size + 3) _ _ _ rfl rfl I6.out.rb.drew (by rfl) (by kernel_rfl) (row_one _ _ _ _ _ _ _) ?_; intro w9 hb9 hg9); refine hQ2 _ _ (fun _ => (S0).grown hg9 (fun k e => by injection e with e; exact .inl e.symm)) ?_; clear hQ2 Q2
  have S9 := (S0).grown hg9 (fun k e => by injection e with e; exact .inl e.symm)
  refine anyG_takes (is := [9, 10]) (vs := [.int .i64 0, .int .i64 (0)]) (m := 0) (listed2 := #[true, true, true, true, true, true, true, true, true, true, true]) (a2 := ⟨#[_, _, _, _, _, _, _, _, _, _, _, _, _, _, _, _, _, _, _, _, _, _, _, _, _, _, _, _, _, _, _, _, _, _, _, _, _, _, _, _, _, _, _, _, _, _, _, _, _, _, _, _, _, _, _, _, _, _, _, _, _, _, _, _, _, _, _, _, _, _, _, _, _, _, _, _, _, _, _, _, _, _, _, _, _, _], _⟩) (by kernel_rfl) (fun j hj => by simp at hj) (by kernel_rfl) (fun _ _ _ _ _ h => h) (Ys.cons rfl (Or.inl ⟨by rfl, fun W1 hW1 => by rfl⟩) (Ys.cons rfl (Or.inl ⟨by rfl, fun W1 hW1 => by rfl⟩) (Ys.nil))) (S9) (by rfl) (by rfl) ?_
  refine anyG_done (by kernel_rfl) ?_ _
  have E9 := Lib.hid (I6.out.bel.trans (Upd.below (S9) (fun k hk => by omega) I6.out.bel.size))
  go_wp2
  refine bodyPost_ret (results_row_tmp2 rfl _ _ (w.heap.size + 3) _ _ _ rfl hb9 Try.underlying64 rfl (by kernel_rfl)) rfl ?_
  rw [HQ.out]
  exact ⟨_, _, (by rw [HGN.out]; rfl), ⟨_, _, _, _, _, _, rfl, rfl, slice_keep HS.out E9.out, slice_keep HH.out E9.out⟩, E9.out, .inl rfl, .inl rfl⟩
theorem ref17_Do_note (c : Cfg) (x : Ld) (a : NAct) (A : Option Addr) (n cp : Nat) (A2 : Option Addr) (n2 c2 : Nat) (w : World) (hs : SmpsAre w A n cp x.smps) (hh : AdvsAre w A2 n2 c2 x.past) (hc : c.okC) (k : Nat) (hx : LdOk c x k) (hk : k ≤ 100) (ha : a.kind = 3) :
    Calls Try.prog 33 #[.agg c.row, .agg (x.row (.slice A n cp) (.slice A2 n2 c2)), .agg a.row] w (DoS c x a (.slice A n cp) (.slice A2 n2 c2) w) := by
  have HS := Lib.hid hs
  have HH := Lib.hid hh
  have X0 := Lib.hid (DoI.pre w c x (.slice A n cp) (.slice A2 n2 c2) a)
  have I0 := Lib.hid (DoI.start w c x (.slice A n cp) (.slice A2 n2 c2) a)
  have hn : n ≤ 256 := by rw [← hs.1]; have := hx.slen; have := hc.2.2.1; omega
  have hn2 : n2 ≤ 64 := by rw [← hh.1]; have := hx.plen; have := hc.2.2.2.2.2.2; omega
  have hnl : x.smps.length = n := hs.1
  have HNL := Lib.hid hnl
  have v0 := hx.v0
  have v1 : x.ver ≤ 100 := by have := hx.v1; omega
  have hy : ndo c x a = ⟨x.smps, pushq x.past c.his.toNat a.adv, x.pol, x.ruled, x.ver + 1⟩ := by unfold ndo; rw [if_neg (by omega), if_neg (by omega), if_neg (by omega), if_pos ha]; rfl
  have hE : nerr a = 0 := by unfold nerr; rw [if_neg (by omega), if_neg (by omega)]
  have HQ := Lib.hid (DoS.eq (s0 := .slice A n cp) (h0 := .slice A2 n2 c2) (w := w) hy hE)
  obtain ⟨rm, hrm⟩ : ∃ rm : Nat, c.his = rm := ⟨c.his.toNat, by have := hc.2.2.2.2.2.1; omega⟩
  have hrm2 : rm ≤ 64 := by have := hc.2.2.2.2.2.2; omega
  have HP := Lib.hid (fun W hW => ref14_Put A2 n2 c2 x.past rm a.adv W hW (by omega) (by omega))
  rw [show c.his.toNat = rm by omega] at HQ
  obtain ⟨kind, tick, value, pol, adv⟩ := a
  obtain rfl : kind = 3 := ha
  obtain ⟨cs, csm, cl, ch⟩ := c
  obtain rfl : ch = rm := hrm
  simp only at HP HQ
  generalize pushq x.past rm adv = Q at *
  clear hs hh hx hc hy hE hnl
  go_enter Try.func33, Try.ntmps33
  focus (go_upto_region 21 with (first
    | (refine Blk.load rfl 64 (.tmp 4) (by with_reducible rfl) _ _ _ _ rfl X0.out Try.underlying64 rfl (by kernel_rfl) ?_)
    | (refine wpList_store_row rfl 64 (.tmp 9) (.tmp 11) rfl (w.heap.size + 4) _ _ _ rfl rfl I0.out.ob (by rfl) (by kernel_rfl) (row_one _ _ _ _ _ _ _) ?_; intro w5 hb5 hg5; have I5 := Lib.hid (I0.out.store hb5 hg5); have a0 := I5.out.ab.cellv (i := 0) (v := .int .i64 3) rfl; have a9 := I5.out.ab.cellv (i := 9) (v := .int .i64 adv.tick) rfl; have a10 := I5.out.ab.cellv (i := 10) (v := .int .i64 adv.load) rfl; have a11 := I5.out.ab.cellv (i := 11) (v := .int .i64 adv.want) rfl; have a12 := I5.out.ab.cellv (i := 12) (v := .int .i64 adv.repl) rfl; have a13 := I5.out.ab.cellv (i := 13) (v := .int .i64 adv.why) rfl; have x1 := I5.out.xb.cellv (i := 1) (v := .slice A2 n2 c2) rfl; have c3 := I5.out.cb.cellv (i := 3) (v := .int .i64 rm) rfl; clear hb5 hg5)
    | (go_at_call 72; refine (HP.out _ (slice_keep HH.out I5.out.bel)).mono ?_; rintro e w7 ⟨A5, n5, c5, rfl, hs5, hb5, hab⟩; have HA5 := Lib.hid (fun a ha => Nat.lt_of_lt_of_le I5.out.ob.lt (hab a ha).1); clear hab; have S5 := Lib.hid hs5; have I7 := Lib.hid (I5.out.call hb5); have o1 := I7.out.ob.cellv (i := 1) (v := .slice A2 n2 c2) rfl; have f1 := I7.out.ob.frozen 1; have o9 := I7.out.ob.cellv (i := 9) (v := .int .i64 x.ver) rfl; have f9 := I7.out.ob.frozen 9; have x9 := I7.out.xb.cellv (i := 9) (v := .int .i64 x.ver) rfl; clear hs5 hb5 a9 a10 a11 a12 a13 x1 c3)))
  have HGN := Lib.hid (show ((x.smps.length : Int) - (x.smps.length : Int)) = 0 by omega)
  clear o1 f1 o9 f9 x9
  have I6 := Lib.hid ((I7.out.set 1 (.slice A5 n5 c5) (o' := (⟨x.smps, Q, x.pol, x.ruled, x.ver⟩ : Ld).row (.slice A n cp) (.slice A5 n5 c5)) rfl).set 9 (.int .i64 (x.ver + 1)) (o' := (⟨x.smps, Q, x.pol, x.ruled, x.ver + 1⟩ : Ld).row (.slice A n cp) (.slice A5 n5 c5)) rfl)
  have S6 := Lib.hid (show AdvsAre ((w7.setCell ⟨w.heap.size + 4, 1, none⟩ (.slice A5 n5 c5)).setCell ⟨w.heap.size + 4, 9, none⟩ (.int .i64 (x.ver + 1))) A5 n5 c5 Q from slice_upd S5.out (((Upd.refl (fun k => k = w.heap.size + 4) w7).setCell (.inl rfl) _).setCell (.inl rfl) _) (fun a ha e => by have h1 := HA5.out a ha; have h2 : a.block = w.heap.size + 4 := e; omega))
  generalize (w7.setCell ⟨w.heap.size + 4, 1, none⟩ (.slice A5 n5 c5)).setCell ⟨w.heap.size + 4, 9, none⟩ (.int .i64 (x.ver + 1)) = w6 at *
  clear a0
  refine wp_region_any (by kernel_rfl) ?_; change wpAny _ _ _ _ _ _ _ (World.drew w6); refine any_of_anyG (late := fun _ => false) (S := fun wS => Upd (fun k => k = w.heap.size + 3) w6 wS) _ _ _ _ ?_
  have S0 := (Upd.refl (fun k => k = w.heap.size + 3) w6).drew
  refine anyG_takes (is := [0, 1, 2, 3, 4]) (vs := [_, _, .slice A n cp, .int .i64 n, _]) (m := 6) (listed2 := #[true, true, true, true, true, false, false, false, false, false, false]) (a2 := ⟨#[_, _, _, _, _, _, _, _, _, _, _, _, _, _, _, _, _, _, _, _, _, _, _, _, _, _, _, _, _, _, _, _, _, _, _, _, _, _, _, _, _, _, _, _, _, _, _, _, _, _, _, _, _, _, _, _, _, _, _, _, _, _, _, _, _, _, _, _, _, _, _, _, _, _, _, _, _, _, _, _, _, _, _, _, _, _], _⟩) (by kernel_rfl) (fun j hj => by simp at hj) (by kernel_rfl) (fun _ _ _ _ _ h => h) (Ys.cons rfl (Or.inl ⟨by rfl, fun W1 hW1 => exec_load (ty := 64) (x := .tmp 9) rfl rfl (run_loadAt_blk _ _ _ _ _ _ (I6.out.ob.upd hW1 (by show ¬ w.heap.size + 4 = w.heap.size + 3; omega)) Try.underlying64 rfl (by first | kernel_rfl | exact info_num _))⟩) (Ys.cons rfl (Or.inl ⟨by rfl, fun W1 hW1 => by first | rfl | (go_simp; done) | (go_simp; with_reducible rfl)⟩) (Ys.cons rfl (Or.inl ⟨by rfl, fun W1 hW1 => by have c := (I6.out.xb.upd hW1 (by show ¬ w.heap.size + 1 = w.heap.size + 3; omega)).cellv (i := 0) (v := .slice A n cp) rfl; go_simp⟩) (Ys.cons rfl (Or.inl ⟨by rfl, fun W1 hW1 => by first | rfl | (go_simp; done)⟩) (Ys.cons rfl (Or.inl ⟨by rfl, fun W1 hW1 => by first | rfl | (go_simp; done) | (go_simp; with_reducible rfl)⟩) (Ys.nil)))))) (S0) (by rfl) (by rfl) ?_
  refine anyG_takes (is := [5, 6, 7]) (vs := [.slice A n cp, .int .i64 n, .int .i64 (0)]) (m := 3) (listed2 := #[true, true, true, true, true, true, true, true, false, false, false]) (a2 := ⟨#[_, _, _, _, _, _, _, _, _, _, _, _, _, _, _, _, _, _, _, _, _, _, _, _, _, _, _, _, _, _, _, _, _, _, _, _, _, _, _, _, _, _, _, _, _, _, _, _, _, _, _, _, _, _, _, _, _, _, _, _, _, _, _, _, _, _, _, _, _, _, _, _, _, _, _, _, _, _, _, _, _, _, _, _, _, _], _⟩) (by kernel_rfl) (fun j hj => by simp at hj) (by kernel_rfl) (fun _ _ _ _ _ h => h) (Ys.cons rfl (Or.inl ⟨by rfl, fun W1 hW1 => by have c := (I6.out.ob.upd hW1 (by show ¬ w.heap.size + 4 = w.heap.size + 3; omega)).cellv (i := 0) (v := .slice A n cp) rfl; go_simp⟩) (Ys.cons rfl (Or.inl ⟨by rfl, fun W1 hW1 => by first | rfl | (go_simp; done)⟩) (Ys.cons rfl (Or.inl ⟨by rfl, fun W1 hW1 => by first | (go_simp; done) | (go_simp; exact IntWalk.i64_in _ (by omega))⟩) (Ys.nil)))) (S0) (by rfl) (by rfl) ?_
  refine anyG_one (k := 8) (by kernel_rfl) rfl (by rfl) (fun Q2 hQ2 => ?_); go_wp2_with (refine wpList_store_row rfl 64 (.tmp 6) (.tmp 78) rfl (w.heap.size + 3) _ _ _ rfl rfl I6.out.rb.drew (by rfl) (by kernel_rfl) (row_one _ _ _ _ _ _ _) ?_; intro w9 hb9 hg9); refine hQ2 _ _ (fun _ => (S0).grown hg9 (fun k e => by injection e with e; exact .inl e.symm)) ?_; clear hQ2 Q2
  have S9 := (S0).grown hg9 (fun k e => by injection e with e; exact .inl e.symm)
  refine anyG_takes (is := [9, 10]) (vs := [.int .i64 0, .int .i64 (0)]) (m := 0) (listed2 := #[true, true, true, true, true, true, true, true, true, true, true]) (a2 := ⟨#[_, _, _, _, _, _, _, _, _, _, _, _, _, _, _, _, _, _, _, _, _, _, _, _, _, _, _, _, _, _, _, _, _, _, _, _, _, _, _, _, _, _, _, _, _, _, _, _, _, _, _, _, _, _, _, _, _, _, _, _, _, _, _, _, _, _, _, _, _, _, _, _, _, _, _, _, _, _, _, _, _, _, _, _, _, _], _⟩) (by kernel_rfl) (fun j hj => by simp at hj) (by kernel_rfl) (fun _ _ _ _ _ h => h) (Ys.cons rfl (Or.inl ⟨by rfl, fun W1 hW1 => by rfl⟩) (Ys.cons rfl (Or.inl ⟨by rfl, fun W1 hW1 => by rfl⟩) (Ys.nil))) (S9) (by rfl) (by rfl) ?_
  refine anyG_done (by kernel_rfl) ?_ _
  have E9 := Lib.hid (I6.out.bel.trans (Upd.below (S9) (fun k hk => by omega) I6.out.bel.size))
  go_wp2
  refine bodyPost_ret (results_row_tmp2 rfl _ _ (w.heap.size + 3) _ _ _ rfl hb9 Try.underlying64 rfl (by kernel_rfl)) rfl ?_
  rw [HQ.out]
  exact ⟨_, _, (by rw [HGN.out]; rfl), ⟨_, _, _, _, _, _, rfl, rfl, slice_keep HS.out E9.out, slice_upd S6.out (S9) (fun a ha e => by have h1 := HA5.out a ha; have h2 : a.block = w.heap.size + 3 := e; omega)⟩, E9.out, .inl rfl, .inr (fun a n4 c4 e => by injection e with e1; have h1 := HA5.out a e1; omega)⟩
end Go.Proofs.Ytfeccjjheiillaa
/- Chapter 17: a nil node; configs; the reference's acts, all; awake. (fast region) -/
namespace Go.Proofs.Ytfeccjjheiillaa
open Go.RowKit
set_option linter.unusedSimpArgs false
set_option linter.unusedVariables false
set_option maxHeartbeats 4000000
set_option maxRecDepth 100000
theorem ref17_Do (c : Cfg) (x : Ld) (a : NAct) (s h : Value) (w : World) (hl : LdAt w x s h) (hc : c.okC) (k : Nat) (hx : LdOk c x k) (hk : k ≤ 100) :
    Calls Try.prog 33 #[.agg c.row, .agg (x.row s h), .agg a.row] w (DoS c x a s h w) := by
  obtain ⟨A, n, cp, A2, n2, c2, rfl, rfl, hs, hh⟩ := hl
  by_cases k0 : a.kind = 0
  · by_cases he : serErr a.tick a.value = 0
    · exact ref17_Do_put c x a A n cp A2 n2 c2 w hs hh hc k hx hk k0 he
    · exact ref17_Do_put_no c x a A n cp A2 n2 c2 w hs hh hc k hx hk k0 he
  by_cases k1 : a.kind = 1
  · by_cases he : (froms x.smps a.tick).length = x.smps.length
    · exact ref17_Do_trim_no c x a A n cp A2 n2 c2 w hs hh hc k hx hk k1 he
    · exact ref17_Do_trim c x a A n cp A2 n2 c2 w hs hh hc k hx hk k1 he
  by_cases k2 : a.kind = 2
  · by_cases he : a.pol.okP
    · exact ref17_Do_set c x a A n cp A2 n2 c2 w hs hh hc k hx hk k2 he
    · exact ref17_Do_set_no c x a A n cp A2 n2 c2 w hs hh hc k hx hk k2 he
  by_cases k3 : a.kind = 3
  · exact ref17_Do_note c x a A n cp A2 n2 c2 w hs hh hc k hx hk k3
  · exact ref17_Do_no c x a A n cp A2 n2 c2 w hs hh (by omega)
theorem ref17_Right (c : Cfg) (w : World) (hc : c.fit) :
    Calls Try.prog 30 #[.agg c.row] w fun e w' => e = .returned (.bool (decide c.okC)) ∧ Below w.heap.size w w' := by
  cases hr : rightq c.str
  · have HE := Lib.hid (show decide c.okC = false from decide_eq_false (by unfold Cfg.okC; rw [hr]; simp))
    have HC := Lib.hid (fun W => ref_Bits c.str W hc.1)
    rw [show rbitsq c.str = -1 from if_neg (by rw [hr]; simp)] at HC
    clear hr
    go_enter Try.func30, Try.ntmps30
    go_wp2_with (go_at_call 14; refine (HC.out _).mono ?_; rintro e w1 ⟨rfl, rfl⟩)
    go_ret
    exact ⟨ret_bool HE.out.symm, by go_grown⟩
  · have HC := Lib.hid (fun W => ref_Bits c.str W hc.1)
    rw [show rbitsq c.str = bitsq c.str from if_pos hr] at HC
    have b0 := (bitsq_bd c.str).1
    have HE1 := Lib.hid (fun (h : c.smp < 1 ∨ 256 < c.smp ∨ c.lod < 1 ∨ 256 < c.lod ∨ c.his < 1 ∨ 64 < c.his) => (show decide c.okC = false from decide_eq_false (by unfold Cfg.okC; omega)))
    have HE0 := Lib.hid (fun (h : 1 ≤ c.smp ∧ c.smp ≤ 256 ∧ 1 ≤ c.lod ∧ c.lod ≤ 256 ∧ 1 ≤ c.his ∧ c.his ≤ 64) => (show decide c.okC = true from decide_eq_true ⟨hr, h⟩))
    have HE2 := Lib.hid (fun (h : 1 ≤ c.smp ∧ c.smp ≤ 256 ∧ 1 ≤ c.lod ∧ c.lod ≤ 256 ∧ 1 ≤ c.his) => (show decide (c.his ≤ 64) = decide c.okC from by
      by_cases h2 : c.his ≤ 64
      · rw [decide_eq_true h2]; exact (decide_eq_true ⟨hr, h.1, h.2.1, h.2.2.1, h.2.2.2.1, h.2.2.2.2, h2⟩).symm
      · rw [decide_eq_false h2]; exact (decide_eq_false (by unfold Cfg.okC; omega)).symm))
    generalize bitsq c.str = B at *
    clear hr
    go_enter Try.func30, Try.ntmps30
    go_wp2_with (go_at_call 14; refine (HC.out _).mono ?_; rintro e w1 ⟨rfl, rfl⟩)
    all_goals
      go_ret
      refine ⟨ret_bool ?_, by go_grown⟩
      first
        | exact (HE1.out (by omega)).symm
        | exact (HE0.out (by omega)).symm
        | exact HE2.out (by omega)
/-- A nil node's errors. -/
def nerrN (a : NAct) : Int := if nerr a = 0 ∧ (a.kind = 0 ∨ a.kind = 2) then 5 else nerr a
theorem node_Put_nil (t v : Int) (w : World) : Calls Try.prog 63 #[.pointer none, .int .i64 t, .int .i64 v] w fun e w' => e = .returned (.tuple #[.pointer none, .int .i64 (if serErr t v = 0 then 5 else serErr t v)]) ∧ w = w' := by
  have HRt := Lib.hid (fun W => series_Right t v W)
  have HM := Lib.hid (fun W => node_made_nil W)
  by_cases he : serErr t v = 0
  · rw [if_pos he]
    rw [he] at HRt
    clear he
    go_enter Try.func63, Try.ntmps63
    go_wp2_with (first
      | (go_at_call 82; refine (HRt.out _).mono ?_; rintro e w1 ⟨rfl, rfl⟩)
      | (go_at_call 76; refine (HM.out _).mono ?_; rintro e w1 ⟨rfl, rfl⟩))
    go_ret2
    exact ⟨rfl, rfl⟩
  · rw [if_neg he]
    have de : (serErr t v != 0) = true := by simpa using he
    generalize serErr t v = ER at *
    clear he
    go_enter Try.func63, Try.ntmps63
    go_wp2_with (go_at_call 82; refine (HRt.out _).mono ?_; rintro e w1 ⟨rfl, rfl⟩)
    go_ret2
    exact ⟨rfl, rfl⟩
theorem node_Trim_nil (t : Int) (w : World) : Calls Try.prog 67 #[.pointer none, .int .i64 t] w fun e w' => e = .returned (.tuple #[.pointer none, .int .i64 0]) ∧ w = w' := by
  have HM := Lib.hid (fun W => node_made_nil W)
  go_enter Try.func67, Try.ntmps67
  go_wp2_with (go_at_call 76; refine (HM.out _).mono ?_; rintro e w1 ⟨rfl, rfl⟩)
  go_ret2
  exact ⟨rfl, rfl⟩
theorem node_Set_nil (q : Pol) (w : World) : Calls Try.prog 68 #[.pointer none, (.agg #[.int .i64 q.min, .int .i64 q.max, .int .i64 q.target, .int .i64 q.tol, .int .i64 q.window, .int .i64 q.hold])] w fun e w' => e = .returned (.tuple #[.pointer none, .int .i64 (if polErr q = 0 then 5 else polErr q)]) ∧ Below w.heap.size w w' := by
  have B0 := Lib.hid (show Below w.heap.size w (w.alloc (.cells q.row 62)) by go_grown)
  have HC := Lib.hid (fun W => policy_Check q W)
  have BX := Lib.hid (Blk.new w 62 q.row)
  have HM := Lib.hid (fun W => node_made_nil W)
  by_cases hk : q.okP
  · rw [polErr_ok hk] at HC ⊢
    clear hk
    rw [if_pos rfl]
    go_enter Try.func68, Try.ntmps68
    go_wp2_with (first
      | (refine Blk.load rfl 62 (.tmp 3) rfl _ _ _ _ rfl BX.out Try.underlying62 rfl (by kernel_rfl) ?_)
      | (go_at_call 99; refine (HC.out _).mono ?_; rintro e w1 ⟨rfl, hb1⟩; have E1 := Lib.hid (B0.out.trans (hb1.mono B0.out.size)); clear hb1)
      | (go_at_call 76; refine (HM.out _).mono ?_; rintro e w1 ⟨rfl, rfl⟩))
    go_ret2
    exact ⟨rfl, E1.out⟩
  · rw [polErr_no hk] at HC ⊢
    clear hk
    rw [if_neg (by decide)]
    go_enter Try.func68, Try.ntmps68
    go_wp2_with (first
      | (refine Blk.load rfl 62 (.tmp 3) rfl _ _ _ _ rfl BX.out Try.underlying62 rfl (by kernel_rfl) ?_)
      | (go_at_call 99; refine (HC.out _).mono ?_; rintro e w1 ⟨rfl, hb1⟩; have E1 := Lib.hid (B0.out.trans (hb1.mono B0.out.size)); clear hb1))
    go_ret2
    exact ⟨rfl, E1.out⟩
theorem node_Note_nil (a : Adv) (w : World) : Calls Try.prog 69 #[.pointer none, .agg (rowA a)] w fun e w' => e = .returned (.pointer none) ∧ Below w.heap.size w w' := by
  have HM := Lib.hid (fun W => node_made_nil W)
  go_enter Try.func69, Try.ntmps69
  go_wp2_with (go_at_call 76; refine (HM.out _).mono ?_; rintro e w1 ⟨rfl, rfl⟩)
  go_ret
  exact ⟨rfl, by go_grown⟩
theorem node_Freeze_nil (w : World) : Calls Try.prog 36 #[.pointer none] w fun e w' => e = .returned (.pointer none) ∧ w = w' := by
  have HM := Lib.hid (fun W => node_made_nil W)
  go_enter Try.func36, Try.ntmps36
  go_wp2_with (go_at_call 76; refine (HM.out _).mono ?_; rintro e w1 ⟨rfl, rfl⟩)
  go_ret
  exact ⟨rfl, rfl⟩
theorem law_do_nil (a : NAct) (w : World) :
    Calls Try.prog 32 #[.pointer none, .agg a.row] w fun e w' => e = .returned (.tuple #[.pointer none, .int .i64 (nerrN a), .int .i64 0]) ∧ Below w.heap.size w w' := by
  have B0 := Lib.hid (show Below w.heap.size w (w.alloc (.cells a.row acT)) by go_grown)
  have hX := Blk.new w acT a.row
  by_cases k0 : a.kind = 0
  · have he : nerrN a = if serErr a.tick a.value = 0 then 5 else serErr a.tick a.value := by
      unfold nerrN nerr; rw [if_pos k0]
      by_cases h : serErr a.tick a.value = 0
      · rw [if_pos ⟨h, .inl k0⟩, if_pos h]
      · rw [if_neg (fun hh => h hh.1), if_neg h]
    have HP := Lib.hid (fun W => node_Put_nil a.tick a.value W)
    rw [← he] at HP
    obtain ⟨kind, tick, value, pol, adv⟩ := a
    obtain rfl : kind = 0 := k0
    have a0 := hX.cellv (i := 0) (v := .int .i64 0) rfl
    have a1 := hX.cellv (i := 1) (v := .int .i64 tick) rfl
    have a2 := hX.cellv (i := 2) (v := .int .i64 value) rfl
    simp only at HP
    generalize nerrN _ = ER at *
    clear hX he
    go_enter Try.func32, Try.ntmps32
    go_wp2_with (go_at_call 63; refine (HP.out _).mono ?_; rintro e w1 ⟨rfl, rfl⟩)
    go_ret3
    exact ⟨rfl, B0.out⟩
  by_cases k1 : a.kind = 1
  · have he : nerrN a = 0 := by unfold nerrN nerr; rw [if_neg k0, if_neg (by omega), if_neg (by omega)]
    rw [he]
    have HP := Lib.hid (fun W => node_Trim_nil a.tick W)
    obtain ⟨kind, tick, value, pol, adv⟩ := a
    obtain rfl : kind = 1 := k1
    have a0 := hX.cellv (i := 0) (v := .int .i64 1) rfl
    have a1 := hX.cellv (i := 1) (v := .int .i64 tick) rfl
    simp only at HP
    clear hX he k0
    go_enter Try.func32, Try.ntmps32
    go_wp2_with (go_at_call 67; refine (HP.out _).mono ?_; rintro e w1 ⟨rfl, rfl⟩)
    go_ret3
    exact ⟨rfl, B0.out⟩
  by_cases k2 : a.kind = 2
  · have he : nerrN a = if polErr a.pol = 0 then 5 else polErr a.pol := by
      unfold nerrN nerr; rw [if_neg k0, if_pos k2]
      by_cases h : polErr a.pol = 0
      · rw [if_pos ⟨h, .inr k2⟩, if_pos h]
      · rw [if_neg (fun hh => h hh.1), if_neg h]
    have HP := Lib.hid (fun W => node_Set_nil a.pol W)
    rw [← he] at HP
    obtain ⟨kind, tick, value, pol, adv⟩ := a
    obtain rfl : kind = 2 := k2
    have a0 := hX.cellv (i := 0) (v := .int .i64 2) rfl
    have a3 := hX.cellv (i := 3) (v := .int .i64 pol.min) rfl
    have a4 := hX.cellv (i := 4) (v := .int .i64 pol.max) rfl
    have a5 := hX.cellv (i := 5) (v := .int .i64 pol.target) rfl
    have a6 := hX.cellv (i := 6) (v := .int .i64 pol.tol) rfl
    have a7 := hX.cellv (i := 7) (v := .int .i64 pol.window) rfl
    have a8 := hX.cellv (i := 8) (v := .int .i64 pol.hold) rfl
    simp only at HP
    generalize nerrN _ = ER at *
    clear hX he k0 k1
    go_enter Try.func32, Try.ntmps32
    go_wp2_with (go_at_call 68; refine (HP.out _).mono ?_; rintro e w1 ⟨rfl, hb1⟩; have E1 := Lib.hid (B0.out.trans (hb1.mono B0.out.size)); clear hb1)
    go_ret3
    exact ⟨rfl, E1.out⟩
  have he : nerrN a = 0 := by unfold nerrN nerr; rw [if_neg k0, if_neg (by omega), if_neg (by omega)]
  rw [he]
  by_cases k3 : a.kind = 3
  · have HP := Lib.hid (fun W => node_Note_nil a.adv W)
    obtain ⟨kind, tick, value, pol, adv⟩ := a
    obtain rfl : kind = 3 := k3
    have a0 := hX.cellv (i := 0) (v := .int .i64 3) rfl
    have a3 := hX.cellv (i := 9) (v := .int .i64 adv.tick) rfl
    have a4 := hX.cellv (i := 10) (v := .int .i64 adv.load) rfl
    have a5 := hX.cellv (i := 11) (v := .int .i64 adv.want) rfl
    have a6 := hX.cellv (i := 12) (v := .int .i64 adv.repl) rfl
    have a7 := hX.cellv (i := 13) (v := .int .i64 adv.why) rfl
    simp only at HP
    clear hX he k0 k1 k2
    go_enter Try.func32, Try.ntmps32
    go_wp2_with (go_at_call 69; refine (HP.out _).mono ?_; rintro e w1 ⟨rfl, hb1⟩; have E1 := Lib.hid (B0.out.trans (hb1.mono B0.out.size)); clear hb1)
    go_ret3
    exact ⟨rfl, E1.out⟩
  · have HP := Lib.hid (fun W => node_Freeze_nil W)
    have a0 := hX.cellv (i := 0) (v := .int .i64 a.kind) rfl
    have d0 : (a.kind == 0) = false := by simpa using k0
    have d1 : (a.kind == 1) = false := by simpa using k1
    have d2 : (a.kind == 2) = false := by simpa using k2
    have d3 : (a.kind == 3) = false := by simpa using k3
    clear hX he k0 k1 k2 k3
    go_enter Try.func32, Try.ntmps32
    go_wp2_with (go_at_call 36; refine (HP.out _).mono ?_; rintro e w1 ⟨rfl, rfl⟩)
    go_ret3
    exact ⟨rfl, B0.out⟩
abbrev cfs : Cfg := ⟨1, 2, 1, 1⟩
theorem law_small (w : World) : Calls Try.prog 37 #[] w fun e w' => e = .returned (.agg cfs.row) ∧ Below w.heap.size w w' := by
  go_enter Try.func37, Try.ntmps37
  go_wp2
  exact bodyPost_ret (results_row rfl _ _ w.heap.size _ _ _ rfl (Blk.new _ _ _) Try.underlying53 rfl (by kernel_rfl)) rfl ⟨rfl, by go_grown⟩
theorem cfs_ok : cfs.okC := by unfold Cfg.okC; exact ⟨by decide, by decide, by decide, by decide, by decide, by decide, by decide⟩
theorem cfs_fit : cfs.fit := by unfold Cfg.fit I64; decide
theorem awake17 (w : World) : Calls Try.prog 28 #[] w fun e w' => e = .returned (.bool true) ∧ Below w.heap.size w w' := by
  have HS := Lib.hid (fun W => law_small W)
  have HN := Lib.hid (fun W => node_New cfs W cfs_fit cfs_ok)
  have hput : nput cfs ld0 1 5 = ⟨putq [] 2 ⟨1, 5⟩, [], ⟨0, 0, 0, 0, 0, 0⟩, false, 1⟩ := if_pos (by decide)
  have HYl := Lib.hid (show (putq [] 2 ⟨1, 5⟩).length = 1 from by decide)
  have HP := Lib.hid (fun p F W hW => node_Put p F cfs ld0 true 1 5 W hW cfs_ok ⟨by decide, by decide⟩)
  rw [hput, show serErr 1 5 = 0 by decide] at HP
  generalize putq [] 2 ⟨1, 5⟩ = Q at *
  clear hput
  go_enter Try.func28, Try.ntmps28
  focus (go_upto_region 3 with (first
    | (go_at_call 37; refine (HS.out _).mono ?_; rintro e w1 ⟨rfl, hb1⟩; have E1 := Lib.hid hb1; clear hb1)
    | (go_at_call 29; refine (HN.out _).mono ?_; rintro e w2 ⟨p, F, rfl, hn2, hf2, hb2⟩; have E2 := Lib.hid (E1.out.trans (hb2.mono E1.out.size)); have hfr := node_Freeze2 p F cfs ld0 false w2 hn2; have HF := Lib.hid hfr; have HF2 := Lib.hid (fun k hk => Nat.le_trans E1.out.size (hf2 k hk)); clear hn2 hb2 hfr hf2)
    | (go_at_call 36; refine HF.out.mono ?_; rintro e w3 ⟨rfl, hn3, hu3, -⟩; have N3 := Lib.hid hn3; have E3 := Lib.hid (E2.out.trans (hu3.below HF2.out E2.out.size)); clear hn3 hu3)
    | (go_at_call 63; refine (HP.out p F _ N3.out).mono ?_; rintro e w4 ⟨p4, rfl, hres⟩; have R4 := Lib.hid hres; clear hres)))
  obtain ⟨F4, n4, s4, hv4⟩ | ⟨-, h4, -, -⟩ := R4.out
  · obtain ⟨b4, -⟩ := s4.2.2 rfl
    have N5 := Lib.hid (N3.out.call b4)
    have E4 := Lib.hid (E3.out.trans (b4.mono E3.out.size))
    have N4 := Lib.hid n4
    clear R4 b4 n4 s4 hv4 HF HP HN
    have C1 := Lib.hid (node_Version p F cfs ld0 true w4 N5.out)
    have C2 := Lib.hid (node_Version p4 F4 cfs ⟨Q, [], ⟨0, 0, 0, 0, 0, 0⟩, false, 1⟩ false w4 N4.out)
    have C3 := Lib.hid (node_Samples p4 F4 cfs ⟨Q, [], ⟨0, 0, 0, 0, 0, 0⟩, false, 1⟩ false w4 N4.out)
    have C4 := Lib.hid (fun W hW => node_Samples p F cfs ld0 true W (N5.out.call hW))
    have C5 := Lib.hid (fun W hW => node_Frozen p F cfs ld0 true W (N5.out.call hW))
    have C6 := Lib.hid (fun W hW => node_Frozen p4 F4 cfs ⟨Q, [], ⟨0, 0, 0, 0, 0, 0⟩, false, 1⟩ false W (N4.out.call hW))
    go_wp2_with fail
    (with_reducible refine C1.out.mono ?_); rintro e v1 ⟨rfl, rfl⟩
    go_wp2_with fail
    (with_reducible refine C2.out.mono ?_); rintro e v1 ⟨rfl, rfl⟩
    go_wp2_with fail
    (with_reducible refine C3.out.mono ?_); rintro e v3 ⟨A3, n3, c3, rfl, ho3, hb3⟩
    obtain rfl : n3 = 1 := (by rw [← (ho3.is smp_len).1]; exact HYl.out)
    have B3 := Lib.hid hb3
    clear ho3 hb3
    go_wp2_with fail
    (with_reducible refine (C4.out _ B3.out).mono ?_); rintro e v4 ⟨A4, n4, c4, rfl, ho4, hb4⟩
    obtain rfl : n4 = 0 := (ho4.is smp_len).1.symm
    have B4 := Lib.hid (B3.out.trans (hb4.mono B3.out.size))
    clear ho4 hb4
    go_wp2_with fail
    (with_reducible refine (C5.out _ B4.out).mono ?_); rintro e v5 ⟨rfl, rfl⟩
    go_wp2_with fail
    (with_reducible refine (C6.out _ B4.out).mono ?_); rintro e v6 ⟨rfl, rfl⟩
    go_wp2
    go_ret
    exact ⟨rfl, E4.out.trans (B4.out.mono E4.out.size)⟩
  · exact absurd (congrArg Ld.ver h4) (show ¬ ((1 : Int) = 0) by decide)
end Go.Proofs.Ytfeccjjheiillaa
/- Chapter 17: what the laws' loops keep. -/
namespace Go.Proofs.Ytfeccjjheiillaa
open Go.RowKit
set_option linter.unusedSimpArgs false
set_option linter.unusedVariables false
set_option maxHeartbeats 1000000
theorem dec_nact : ∀ vs : List Value, AllOk [.int .i64, .int .i64, .int .i64, .int .i64, .int .i64, .int .i64, .int .i64, .int .i64, .int .i64, .int .i64, .int .i64, .int .i64, .int .i64, .int .i64] vs → ∃ x : NAct, x.cells = vs ∧ x.good := by
  rintro _ ⟨_, _, rfl, ⟨a0, rfl, w0⟩, _, _, rfl, ⟨a1, rfl, w1⟩, _, _, rfl, ⟨a2, rfl, w2⟩, _, _, rfl, ⟨a3, rfl, w3⟩, _, _, rfl, ⟨a4, rfl, w4⟩, _, _, rfl, ⟨a5, rfl, w5⟩, _, _, rfl, ⟨a6, rfl, w6⟩, _, _, rfl, ⟨a7, rfl, w7⟩, _, _, rfl, ⟨a8, rfl, w8⟩, _, _, rfl, ⟨a9, rfl, w9⟩, _, _, rfl, ⟨a10, rfl, w10⟩, _, _, rfl, ⟨a11, rfl, w11⟩, _, _, rfl, ⟨a12, rfl, w12⟩, _, _, rfl, ⟨a13, rfl, w13⟩, h⟩
  cases h
  exact ⟨⟨a0, a1, a2, ⟨a3, a4, a5, a6, a7, a8⟩, ⟨a9, a10, a11, a12, a13⟩⟩, rfl, I64_of_wf w0, I64_of_wf w1, I64_of_wf w2⟩
theorem NActsAre.at_ {w : World} {A : Option Addr} {len cap : Nat} {l : List NAct} (h : NActsAre w A len cap l) {k : Nat} (hk : k < len) :
    ∃ (b off : Nat) (x : NAct), A = some ⟨b, off, none⟩ ∧ l[k]? = some x ∧ b < w.heap.size ∧ ∀ W : World, Below w.heap.size w W → ∀ (j : Nat) (v : Value), x.cells[j]? = some v → W.cell? ⟨b, off + k * 14 + j, none⟩ = some v := by
  obtain ⟨b, off, x, h1, h2, h3, h4⟩ := SliceIs.at_ h hk
  exact ⟨b, off, x, h1, h2, h3, fun W hb j v hv => (hb.cell (p := ⟨b, off + k * 14 + j, none⟩) h3).trans (by rw [Nat.add_assoc]; exact h4 j v hv)⟩
theorem slice_upd2 {α : Type} {S : Nat → Prop} {w w' : World} {size : Nat} {cells : α → List Value} {A : Option Addr} {len cap : Nat} {l : List α} (h : SliceIs w size cells A len cap l) (hu : Upd S w w') (hne : 0 < len → ∀ a, A = some a → ¬ S a.block) : SliceIs w' size cells A len cap l := by
  by_cases hl : 0 < len
  · exact slice_upd h hu (hne hl)
  · refine ⟨h.1, h.2.1, h.2.2.1, h.2.2.2.1, fun a ha => ⟨?_, fun hl2 => absurd hl2 hl⟩⟩
    have hln : l = [] := List.eq_nil_of_length_eq_zero (by have := h.1; omega)
    subst hln
    exact fun i x hi => by simp at hi
theorem ldAt0 (W : World) : LdAt W ld0 nilv nilv := ⟨none, 0, 0, none, 0, 0, rfl, rfl, slice_nil _ _ _, slice_nil _ _ _⟩
/-- A slice's block, if it has cells, is none of S. -/
def Off (s : Value) (S : Nat → Prop) : Prop := ∀ a n c, s = .slice (some a) n c → 0 < n → ¬ S a.block
theorem LdAt.upd {W W' : World} {S : Nat → Prop} {x : Ld} {s h : Value} (hl : LdAt W x s h) (hu : Upd S W W') (h1 : Off s S) (h2 : Off h S) : LdAt W' x s h := by
  obtain ⟨A, n, cp, A2, n2, c2, rfl, rfl, k1, k2⟩ := hl
  exact ⟨A, n, cp, A2, n2, c2, rfl, rfl, slice_upd2 k1 hu (fun hn a ha => h1 a n cp (by rw [ha]) hn), slice_upd2 k2 hu (fun hn a ha => h2 a n2 c2 (by rw [ha]) hn)⟩
theorem LdAt.lt {W : World} {x : Ld} {s h : Value} (hl : LdAt W x s h) : Off s (fun k => W.heap.size ≤ k) ∧ Off h (fun k => W.heap.size ≤ k) := by
  obtain ⟨A, n, cp, A2, n2, c2, rfl, rfl, k1, k2⟩ := hl
  refine ⟨fun a n' c' e hn hk => ?_, fun a n' c' e hn hk => ?_⟩
  · injection e with e1 e2 e3
    subst e2
    have := ((k1.2.2.2.2 a e1).2 hn).1
    have hk2 : W.heap.size ≤ a.block := hk
    omega
  · injection e with e1 e2 e3
    subst e2
    have := ((k2.2.2.2.2 a e1).2 hn).1
    have hk2 : W.heap.size ≤ a.block := hk
    omega
theorem Off.mono {s : Value} {S T : Nat → Prop} (h : Off s S) (hT : ∀ k, T k → S k) : Off s T := fun a n c e hn ht => h a n c e hn (hT _ ht)
theorem Off.or {s : Value} {S T : Nat → Prop} (h : Off s S) (h2 : Off s T) : Off s (fun k => S k ∨ T k) := fun a n c e hn ht => ht.elim (h a n c e hn) (h2 a n c e hn)
theorem NewSl.off {w : World} {s s' : Value} {S : Nat → Prop} (h : NewSl w s s') (h1 : Off s S) (hS : ∀ k, S k → k < w.heap.size) : Off s' S := by
  rcases h with rfl | h
  · exact h1
  · intro a n c e hn hs
    have := h a n c e
    have := hS _ hs
    omega
/-- The config's box, the reference's load in its box, the node. -/
structure PlI (w W : World) (gx : Nat) (c : Cfg) (x : Ld) (s h : Value) (p : Option Addr) (F : Nat → Prop) (fr : Bool) : Prop where
  cb : Blk W w.heap.size cfT c.row
  xb : Blk W gx ldT (x.row s h)
  ld : LdAt W x s h
  so : Off s (fun k => F k ∨ k = gx)
  ho : Off h (fun k => F k ∨ k = gx)
  nd : NodeAt W p F c x fr
  fb : ∀ k, F k → w.heap.size < k ∧ k ≠ gx
  bel : Below w.heap.size w W
  gb : w.heap.size < gx
section
variable {w W W' W2 : World} {gx : Nat} {c : Cfg} {x y : Ld} {s h s' h' : Value} {p p' : Option Addr} {F : Nat → Prop} {fr fr' : Bool}
theorem PlI.call (i : PlI w W gx c x s h p F fr) (hb : Below W.heap.size W W') : PlI w W' gx c x s h p F fr :=
  ⟨i.cb.call hb, i.xb.call hb, i.ld.call hb, i.so, i.ho, i.nd.call hb, i.fb, i.bel.trans (hb.mono i.bel.size), i.gb⟩
/-- The node goes on; the reference does not yet. -/
structure PlM (w W : World) (gx : Nat) (c : Cfg) (x y : Ld) (s h : Value) (p : Option Addr) (F : Nat → Prop) (fr : Bool) : Prop where
  cb : Blk W w.heap.size cfT c.row
  xb : Blk W gx ldT (x.row s h)
  ld : LdAt W x s h
  so : Off s (fun k => F k ∨ k = gx)
  ho : Off h (fun k => F k ∨ k = gx)
  nd : NodeAt W p F c y fr
  fb : ∀ k, F k → w.heap.size < k ∧ k ≠ gx
  bel : Below w.heap.size w W
  gb : w.heap.size < gx
theorem PlM.call (i : PlM w W gx c x y s h p F fr) (hb : Below W.heap.size W W') : PlM w W' gx c x y s h p F fr :=
  ⟨i.cb.call hb, i.xb.call hb, i.ld.call hb, i.so, i.ho, i.nd.call hb, i.fb, i.bel.trans (hb.mono i.bel.size), i.gb⟩
theorem PlI.step (i : PlI w W gx c x s h p F fr) (hr : NRes2 p F c x fr y fr' W p' W') : ∃ F', PlM w W' gx c x y s h p' F' fr' := by
  rcases hr with ⟨F', n1, s1, s2, s3⟩ | ⟨rfl, rfl, rfl, n1, b1⟩
  · have hl := i.ld.lt
    have hF : ∀ k, F' k → (F k ∨ k = gx) ∨ W.heap.size ≤ k := fun k hk => (s2 k hk).imp .inl id
    have hxl := i.xb.lt
    have key : ∀ k, (F' k ∨ k = gx) → (F k ∨ k = gx) ∨ W.heap.size ≤ k := fun k hk => hk.elim (hF k) (fun e => .inl (.inr e))
    refine ⟨F', i.cb.upd s1 (fun hf => by have := (i.fb _ hf).1; omega), i.xb.upd s1 (fun hf => (i.fb _ hf).2 rfl), i.ld.upd s1 (i.so.mono (fun k hk => .inl hk)) (i.ho.mono (fun k hk => .inl hk)), (i.so.or hl.1).mono key, (i.ho.or hl.2).mono key, n1, fun k hk => ?_, i.bel.trans (s1.below (fun k hk => by have := (i.fb k hk).1; omega) i.bel.size), i.gb⟩
    rcases s2 k hk with hk | hk
    · exact i.fb k hk
    · have := i.cb.lt; exact ⟨by omega, by omega⟩
  · exact ⟨F, i.cb.call b1, i.xb.call b1, i.ld.call b1, i.so, i.ho, n1, i.fb, i.bel.trans (b1.mono i.bel.size), i.gb⟩
/-- The reference has gone on: its load is stored. -/
theorem PlM.next (i : PlM w W gx c x y s h p F fr) (hl : LdAt W' y s' h') (hb : Below W.heap.size W W') (h1 : NewSl W s s') (h2 : NewSl W h h') (hx : Blk W2 gx ldT (y.row s' h')) (hg : W'.grownBy W2 (some gx)) : PlI w W2 gx c y s' h' p F fr := by
  have j := i.call hb
  have hFs : ∀ k, (F k ∨ k = gx) → k < W.heap.size := fun k hk => hk.elim (i.nd.lt k) (fun e => by rw [e]; exact i.xb.lt)
  have hu : Upd (fun k => k = gx) W' W2 := (Upd.refl _ W').grown hg (fun k e => by injection e with e; exact .inl e.symm)
  have o1 := h1.off i.so hFs
  have o2 := h2.off i.ho hFs
  refine ⟨j.cb.upd hu (fun e => by have := i.gb; omega), hx, hl.upd hu (o1.mono (fun k hk => .inr hk)) (o2.mono (fun k hk => .inr hk)), o1, o2, j.nd.upd hu (fun k hk e => (i.fb k hk).2 e), i.fb, j.bel.trans (hu.below (fun k hk => by have hk2 : k = gx := hk; have := i.gb; omega) j.bel.size), i.gb⟩
theorem LdOk.le {k m : Nat} (h : LdOk c x k) (hm : k ≤ m) : LdOk c x m := h.mono hm
end
theorem LdOk.small {c : Cfg} {x : Ld} {k : Nat} (hc : c.okC) (h : LdOk c x k) : x.smps.length ≤ 1000 ∧ x.past.length ≤ 1000 := by
  have := h.slen; have := h.plen; have := hc.2.2.1; have := hc.2.2.2.2.2.2
  omega
end Go.Proofs.Ytfeccjjheiillaa
/- Chapter 17's law: NodeNone. (fast region) -/
namespace Go.Proofs.Ytfeccjjheiillaa
open Go.RowKit
set_option linter.unusedSimpArgs false
set_option linter.unusedVariables false
set_option maxHeartbeats 4000000
set_option maxRecDepth 100000
theorem walk_NodeNone (a0 a1 a2 a3 a4 a5 a6 a7 a8 a9 a10 a11 a12 a13 : Int) (w : World) (h0 : I64 a0) (h1 : I64 a1) (h2 : I64 a2) (h3 : I64 a3) (h4 : I64 a4) (h5 : I64 a5) (h6 : I64 a6) (h7 : I64 a7) (h8 : I64 a8) (h9 : I64 a9) (h10 : I64 a10) (h11 : I64 a11) (h12 : I64 a12) (h13 : I64 a13) :
    Calls Try.prog 9 #[.agg #[.int .i64 a0, .int .i64 a1, .int .i64 a2, .int .i64 a3, .int .i64 a4, .int .i64 a5, .int .i64 a6, .int .i64 a7, .int .i64 a8, .int .i64 a9, .int .i64 a10, .int .i64 a11, .int .i64 a12, .int .i64 a13]] w fun e w' => e = .returned (.bool true) ∧ Below w.heap.size w w' := by
  clear h0 h1 h2 h3 h4 h5 h6 h7 h8 h9 h10 h11 h12 h13
  obtain ⟨a, ha⟩ : ∃ a : NAct, a = ⟨a0, a1, a2, ⟨a3, a4, a5, a6, a7, a8⟩, ⟨a9, a10, a11, a12, a13⟩⟩ := ⟨_, rfl⟩
  have hrow : (#[.int .i64 a0, .int .i64 a1, .int .i64 a2, .int .i64 a3, .int .i64 a4, .int .i64 a5, .int .i64 a6, .int .i64 a7, .int .i64 a8, .int .i64 a9, .int .i64 a10, .int .i64 a11, .int .i64 a12, .int .i64 a13] : Array Value) = a.row := by rw [ha]
  rw [hrow]
  clear hrow ha
  have B0 := Lib.hid (show Below w.heap.size w (w.alloc (.cells a.row acT)) by go_grown)
  have X0 := Lib.hid (Blk.new w acT a.row)
  have HNew := Lib.hid (fun W => node_New_no ⟨0, 0, 0, 0⟩ W (by unfold Cfg.fit I64; decide) (by unfold Cfg.okC; decide))
  have HDo := Lib.hid (fun W => law_do_nil a W)
  have HSm := Lib.hid (fun W => law_small W)
  have HRef := Lib.hid (fun W => ref17_Do cfs ld0 a nilv nilv W (ldAt0 W) cfs_ok 0 (ldok0 cfs) (by omega))
  have HTo := Lib.hid (fun W => law_told none ld0 nilv nilv W (tells_nil W) (ldAt0 W) (by decide) (by decide))
  have HFr := Lib.hid (fun W => node_Frozen_nil W)
  have key : ∀ (f e : Int) (k : Int) (hk : a.kind = k) (hf : nerr a = f) (he : nerrN a = e), e = (if f = 0 ∧ (k = 0 ∨ k = 2) then 5 else f) := by
    intro f e k hk hf he
    rw [← he, ← hk, ← hf]; rfl
  have hcase : ∃ f e k : Int, a.kind = k ∧ nerr a = f ∧ nerrN a = e := ⟨_, _, _, rfl, rfl, rfl⟩
  obtain ⟨f, e, k, hk, hf, he⟩ := hcase
  have hE := key f e k hk hf he
  clear key
  have HRf := Lib.hid (fun W => (HRef.out W).mono (fun e w' h => (show (∃ A n cp A2 n2 c2, e = .returned (.tuple #[.agg ((ndo cfs ld0 a).row (.slice A n cp) (.slice A2 n2 c2)), .int .i64 (nerr a), .int .i64 (ngone cfs ld0 a)])) ∧ Below W.heap.size W w' from by
    obtain ⟨s, h, h1, ⟨A, n, cp, A2, n2, c2, rfl, rfl, -, -⟩, h3, -, -⟩ := h
    exact ⟨⟨A, n, cp, A2, n2, c2, h1⟩, h3⟩)))
  rw [he] at HDo
  rw [hf] at HRf
  clear HRef
  have HK := Lib.hid hk
  have hcases : (f ≠ 0 ∧ e = f) ∨ (f = 0 ∧ k = 0 ∧ e = 5) ∨ (f = 0 ∧ k ≠ 0 ∧ k = 2 ∧ e = 5) ∨ (f = 0 ∧ k ≠ 0 ∧ k ≠ 2 ∧ e = 0) := by
    by_cases q1 : f = 0
    · by_cases q2 : k = 0
      · right; left; rw [if_pos ⟨q1, .inl q2⟩] at hE; exact ⟨q1, q2, hE⟩
      · by_cases q3 : k = 2
        · right; right; left; rw [if_pos ⟨q1, .inr q3⟩] at hE; exact ⟨q1, q2, q3, hE⟩
        · right; right; right; rw [if_neg (by omega)] at hE; exact ⟨q1, q2, q3, by omega⟩
    · left; rw [if_neg (fun h => q1 h.1)] at hE; exact ⟨q1, hE⟩
  clear hE hf he hk
  have d0 : (f == 0) = decide (f = 0) := rfl
  clear d0
  have facts : ((f == 0) = true ∨ (f == 0) = false) ∧ True := ⟨by cases f == 0 <;> simp, trivial⟩
  clear facts
  go_enter Try.func9, Try.ntmps9
  focus (go_upto_region 7 with (first
    | (go_at_call 28; refine (awake17 _).mono ?_; rintro e v1 ⟨rfl, hb1⟩; have E1 := Lib.hid (B0.out.trans (hb1.mono B0.out.size)); have X1 := Lib.hid (X0.out.call hb1); clear hb1)
    | (go_at_call 29; refine (HNew.out _).mono ?_; rintro e v2 ⟨rfl, hb2⟩; have E2 := Lib.hid (E1.out.trans (hb2.mono E1.out.size)); have X2 := Lib.hid (X1.out.call hb2); clear hb2)
    | (refine Blk.load rfl 68 (.tmp 1) rfl _ _ _ _ rfl X2.out Try.underlying68 rfl (by kernel_rfl) ?_)
    | (go_at_call 32; refine (HDo.out _).mono ?_; rintro e v3 ⟨rfl, hb3⟩; have E3 := Lib.hid (E2.out.trans (hb3.mono E2.out.size)); have X3 := Lib.hid (X2.out.call hb3); clear hb3)))
  refine wp_region_any (by kernel_rfl) ?_; change wpAny _ _ _ _ _ _ _ (World.drew v3); refine any_of_anyG (late := fun _ => false) (S := fun wS => Below v3.heap.size v3 wS) _ _ _ _ ?_
  have S0 := (Below.refl v3.heap.size v3).drew
  refine anyG_takes (is := [1, 2]) (vs := [.agg (ld0.row nilv nilv), _]) (m := 10) (listed2 := #[false, true, true, false, false, false, false, false, false, false, false, false]) (a2 := ⟨#[_, _, _, _, _, _, _, _, _, _, _, _, _, _, _, _, _, _, _, _, _, _, _, _, _, _, _, _, _, _, _, _, _, _, _, _, _, _, _, _, _, _, _, _, _, _, _, _, _, _, _, _, _, _, _, _, _, _, _, _, _, _, _, _, _, _], _⟩) (by kernel_rfl) (fun j hj => by simp at hj) (by kernel_rfl) (fun _ _ _ _ _ h => h) (Ys.cons rfl (Or.inl ⟨by rfl, fun W1 hW1 => by first | rfl | (go_simp; exact ⟨rfl, rfl, rfl, rfl, rfl, rfl, rfl, rfl⟩)⟩) (Ys.cons rfl (Or.inl ⟨by rfl, fun W1 hW1 => exec_load (ty := 68) (x := .tmp 1) rfl rfl (run_loadAt_blk _ _ _ _ _ _ (X3.out.call hW1) Try.underlying68 rfl (by first | kernel_rfl | exact info_num _))⟩) (Ys.nil))) (S0) (by rfl) (by rfl) ?_
  refine anyG_two (i := 0) (j := 8) (by kernel_rfl) rfl (by rfl) rfl (by rfl) (fun Q2 hQ2 => ?_) (fun Q2 hQ2 => ?_)
  ·
    go_wp2_with (go_at_call 37; refine (HSm.out _).mono ?_; rintro e v4 ⟨rfl, hb4⟩)
    refine hQ2 _ _ (fun _ => S0.trans (hb4.mono S0.size)) ?_
    clear hQ2 Q2
    have S4 := S0.trans (hb4.mono S0.size)
    refine anyG_two (i := 3) (j := 8) (by kernel_rfl) rfl (by rfl) rfl (by rfl) (fun Q2 hQ2 => ?_) (fun Q2 hQ2 => ?_)
    ·
      go_wp2_with (go_at_call 33; refine (HRf.out _).mono ?_; rintro e v5 ⟨⟨A5, n5, c5, A6, n6, c6, rfl⟩, hb5⟩)
      refine hQ2 _ _ (fun _ => S4.trans (hb5.mono S4.size)) ?_
      clear hQ2 Q2
      have S5 := S4.trans (hb5.mono S4.size)
      refine anyG_takes (is := [4, 5, 6, 7]) (vs := [_, .agg ((ndo cfs ld0 a).row (.slice A5 n5 c5) (.slice A6 n6 c6)), .int .i64 f, .int .i64 (ngone cfs ld0 a)]) (m := 4) (listed2 := #[true, true, true, true, true, true, true, true, false, false, false, false]) (a2 := ⟨#[_, _, _, _, _, _, _, _, _, _, _, _, _, _, _, _, _, _, _, _, _, _, _, _, _, _, _, _, _, _, _, _, _, _, _, _, _, _, _, _, _, _, _, _, _, _, _, _, _, _, _, _, _, _, _, _, _, _, _, _, _, _, _, _, _, _], _⟩) (by kernel_rfl) (fun j hj => by simp at hj) (by kernel_rfl) (fun _ _ _ _ _ h => h) (Ys.cons rfl (Or.inl ⟨by rfl, fun W1 hW1 => by first | rfl | (go_simp; done) | (go_simp; with_reducible rfl)⟩) (Ys.cons rfl (Or.inl ⟨by rfl, fun W1 hW1 => by rfl⟩) (Ys.cons rfl (Or.inl ⟨by rfl, fun W1 hW1 => by rfl⟩) (Ys.cons rfl (Or.inl ⟨by rfl, fun W1 hW1 => by rfl⟩) (Ys.nil))))) (S5) (by rfl) (by rfl) ?_
      refine anyG_one (k := 8) (by kernel_rfl) rfl (by rfl) (fun Q2 hQ2 => ?_)
      have nG := new_at (S := S5) (ld0.row nilv nilv) 64
      obtain ⟨G, hG, bG, lG⟩ := nG
      go_wp2_with fail
      refine hQ2 _ _ (fun _ => S5.alloc S5.size _) ?_
      clear hQ2 Q2
      (try simp only [hG])
      clear hG
      have SG := S5.alloc S5.size (.cells (ld0.row nilv nilv) 64)
      refine anyG_one (k := 9) (by kernel_rfl) rfl (by rfl) (fun Q2 hQ2 => ?_); go_wp2_with (refine wpList_store_row rfl 64 (.tmp 7) _ rfl _ _ _ _ rfl rfl (bG) (by rfl) (by kernel_rfl) (by simp [Value.oneCell']) ?_; intro uG huG hwG); refine hQ2 _ _ (fun _ => SG.trans (Only.below hwG lG SG.size)) ?_; clear hQ2 Q2
      have SsG := SG.trans (Only.below hwG lG SG.size)
      refine anyG_takes (is := [10, 11]) (vs := [.int .i64 f, .int .i64 (ngone cfs ld0 a)]) (m := 0) (listed2 := #[true, true, true, true, true, true, true, true, true, true, true, true]) (a2 := ⟨#[_, _, _, _, _, _, _, _, _, _, _, _, _, _, _, _, _, _, _, _, _, _, _, _, _, _, _, _, _, _, _, _, _, _, _, _, _, _, _, _, _, _, _, _, _, _, _, _, _, _, _, _, _, _, _, _, _, _, _, _, _, _, _, _, _, _], _⟩) (by kernel_rfl) (fun j hj => by simp at hj) (by kernel_rfl) (fun _ _ _ _ _ h => h) (Ys.cons rfl (Or.inl ⟨by rfl, fun W1 hW1 => by rfl⟩) (Ys.cons rfl (Or.inl ⟨by rfl, fun W1 hW1 => by rfl⟩) (Ys.nil))) (SsG) (by rfl) (by rfl) ?_
      refine anyG_done (by kernel_rfl) ?_ _
      have X6 := Lib.hid (X3.out.call (SsG))
      have E6 := Lib.hid (E3.out.trans (Below.mono (SsG) E3.out.size))
      have a0 := X6.out.cellv (i := 0) (v := .int .i64 k) (by rw [← HK.out]; rfl)
      clear hb4 hb5 X3
      rcases hcases with ⟨q1, rfl⟩ | ⟨rfl, rfl, rfl⟩ | ⟨rfl, q2, rfl, rfl⟩ | ⟨rfl, q2, q3, rfl⟩
      · have d1 : (e == 0) = false := by simpa using q1
        clear q1
        go_wp2_with (first
          | (go_at_call 34; refine (HTo.out _).mono ?_; rintro e v7 ⟨rfl, hb7⟩; have E7 := Lib.hid (E6.out.trans (hb7.mono E6.out.size)); clear hb7)
          | (go_at_call 35; refine (HFr.out _).mono ?_; rintro e v8 ⟨rfl, rfl⟩))
        go_ret
        exact ⟨rfl, E7.out⟩
      · go_wp2_with (first
          | (go_at_call 34; refine (HTo.out _).mono ?_; rintro e v7 ⟨rfl, hb7⟩; have E7 := Lib.hid (E6.out.trans (hb7.mono E6.out.size)); clear hb7)
          | (go_at_call 35; refine (HFr.out _).mono ?_; rintro e v8 ⟨rfl, rfl⟩))
        go_ret
        exact ⟨rfl, E7.out⟩
      · clear q2
        go_wp2_with (first
          | (go_at_call 34; refine (HTo.out _).mono ?_; rintro e v7 ⟨rfl, hb7⟩; have E7 := Lib.hid (E6.out.trans (hb7.mono E6.out.size)); clear hb7)
          | (go_at_call 35; refine (HFr.out _).mono ?_; rintro e v8 ⟨rfl, rfl⟩))
        go_ret
        exact ⟨rfl, E7.out⟩
      · have d2 : (k == 0) = false := by simpa using q2
        have d3 : (k == 2) = false := by simpa using q3
        clear q2 q3
        go_wp2_with (first
          | (go_at_call 34; refine (HTo.out _).mono ?_; rintro e v7 ⟨rfl, hb7⟩; have E7 := Lib.hid (E6.out.trans (hb7.mono E6.out.size)); clear hb7)
          | (go_at_call 35; refine (HFr.out _).mono ?_; rintro e v8 ⟨rfl, rfl⟩))
        go_ret
        exact ⟨rfl, E7.out⟩
    ·
      skip
      have nG := new_at (S := S4) (ld0.row nilv nilv) 64
      obtain ⟨G, hG, bG, lG⟩ := nG
      go_wp2_with fail
      refine hQ2 _ _ (fun _ => S4.alloc S4.size _) ?_
      clear hQ2 Q2
      (try simp only [hG])
      clear hG
      have SG := S4.alloc S4.size (.cells (ld0.row nilv nilv) 64)
      refine anyG_one (k := 3) (by kernel_rfl) rfl (by rfl) (fun Q2 hQ2 => ?_); go_wp2_with (go_at_call 33; refine (HRf.out _).mono ?_; rintro e v5 ⟨⟨A5, n5, c5, A6, n6, c6, rfl⟩, hb5⟩); refine hQ2 _ _ (fun _ => SG.trans (hb5.mono SG.size)) ?_; clear hQ2 Q2
      have S5 := SG.trans (hb5.mono SG.size)
      refine anyG_takes (is := [4, 5, 6, 7]) (vs := [_, .agg ((ndo cfs ld0 a).row (.slice A5 n5 c5) (.slice A6 n6 c6)), .int .i64 f, .int .i64 (ngone cfs ld0 a)]) (m := 3) (listed2 := #[true, true, true, true, true, true, true, true, true, false, false, false]) (a2 := ⟨#[_, _, _, _, _, _, _, _, _, _, _, _, _, _, _, _, _, _, _, _, _, _, _, _, _, _, _, _, _, _, _, _, _, _, _, _, _, _, _, _, _, _, _, _, _, _, _, _, _, _, _, _, _, _, _, _, _, _, _, _, _, _, _, _, _, _], _⟩) (by kernel_rfl) (fun j hj => by simp at hj) (by kernel_rfl) (fun _ _ _ _ _ h => h) (Ys.cons rfl (Or.inl ⟨by rfl, fun W1 hW1 => by first | rfl | (go_simp; done) | (go_simp; with_reducible rfl)⟩) (Ys.cons rfl (Or.inl ⟨by rfl, fun W1 hW1 => by rfl⟩) (Ys.cons rfl (Or.inl ⟨by rfl, fun W1 hW1 => by rfl⟩) (Ys.cons rfl (Or.inl ⟨by rfl, fun W1 hW1 => by rfl⟩) (Ys.nil))))) (S5) (by rfl) (by rfl) ?_
      refine anyG_one (k := 9) (by kernel_rfl) rfl (by rfl) (fun Q2 hQ2 => ?_); go_wp2_with (refine wpList_store_row rfl 64 (.tmp 7) _ rfl _ _ _ _ rfl rfl ((bG).call hb5) (by rfl) (by kernel_rfl) (by simp [Value.oneCell']) ?_; intro uG huG hwG); refine hQ2 _ _ (fun _ => S5.trans (Only.below hwG lG S5.size)) ?_; clear hQ2 Q2
      have SsG := S5.trans (Only.below hwG lG S5.size)
      refine anyG_takes (is := [10, 11]) (vs := [.int .i64 f, .int .i64 (ngone cfs ld0 a)]) (m := 0) (listed2 := #[true, true, true, true, true, true, true, true, true, true, true, true]) (a2 := ⟨#[_, _, _, _, _, _, _, _, _, _, _, _, _, _, _, _, _, _, _, _, _, _, _, _, _, _, _, _, _, _, _, _, _, _, _, _, _, _, _, _, _, _, _, _, _, _, _, _, _, _, _, _, _, _, _, _, _, _, _, _, _, _, _, _, _, _], _⟩) (by kernel_rfl) (fun j hj => by simp at hj) (by kernel_rfl) (fun _ _ _ _ _ h => h) (Ys.cons rfl (Or.inl ⟨by rfl, fun W1 hW1 => by rfl⟩) (Ys.cons rfl (Or.inl ⟨by rfl, fun W1 hW1 => by rfl⟩) (Ys.nil))) (SsG) (by rfl) (by rfl) ?_
      refine anyG_done (by kernel_rfl) ?_ _
      have X6 := Lib.hid (X3.out.call (SsG))
      have E6 := Lib.hid (E3.out.trans (Below.mono (SsG) E3.out.size))
      have a0 := X6.out.cellv (i := 0) (v := .int .i64 k) (by rw [← HK.out]; rfl)
      clear hb4 hb5 X3
      rcases hcases with ⟨q1, rfl⟩ | ⟨rfl, rfl, rfl⟩ | ⟨rfl, q2, rfl, rfl⟩ | ⟨rfl, q2, q3, rfl⟩
      · have d1 : (e == 0) = false := by simpa using q1
        clear q1
        go_wp2_with (first
          | (go_at_call 34; refine (HTo.out _).mono ?_; rintro e v7 ⟨rfl, hb7⟩; have E7 := Lib.hid (E6.out.trans (hb7.mono E6.out.size)); clear hb7)
          | (go_at_call 35; refine (HFr.out _).mono ?_; rintro e v8 ⟨rfl, rfl⟩))
        go_ret
        exact ⟨rfl, E7.out⟩
      · go_wp2_with (first
          | (go_at_call 34; refine (HTo.out _).mono ?_; rintro e v7 ⟨rfl, hb7⟩; have E7 := Lib.hid (E6.out.trans (hb7.mono E6.out.size)); clear hb7)
          | (go_at_call 35; refine (HFr.out _).mono ?_; rintro e v8 ⟨rfl, rfl⟩))
        go_ret
        exact ⟨rfl, E7.out⟩
      · clear q2
        go_wp2_with (first
          | (go_at_call 34; refine (HTo.out _).mono ?_; rintro e v7 ⟨rfl, hb7⟩; have E7 := Lib.hid (E6.out.trans (hb7.mono E6.out.size)); clear hb7)
          | (go_at_call 35; refine (HFr.out _).mono ?_; rintro e v8 ⟨rfl, rfl⟩))
        go_ret
        exact ⟨rfl, E7.out⟩
      · have d2 : (k == 0) = false := by simpa using q2
        have d3 : (k == 2) = false := by simpa using q3
        clear q2 q3
        go_wp2_with (first
          | (go_at_call 34; refine (HTo.out _).mono ?_; rintro e v7 ⟨rfl, hb7⟩; have E7 := Lib.hid (E6.out.trans (hb7.mono E6.out.size)); clear hb7)
          | (go_at_call 35; refine (HFr.out _).mono ?_; rintro e v8 ⟨rfl, rfl⟩))
        go_ret
        exact ⟨rfl, E7.out⟩
  ·
    skip
    have nG := new_at (S := S0) (ld0.row nilv nilv) 64
    obtain ⟨G, hG, bG, lG⟩ := nG
    go_wp2_with fail
    refine hQ2 _ _ (fun _ => S0.alloc S0.size _) ?_
    clear hQ2 Q2
    (try simp only [hG])
    clear hG
    have SG := S0.alloc S0.size (.cells (ld0.row nilv nilv) 64)
    refine anyG_one (k := 0) (by kernel_rfl) rfl (by rfl) (fun Q2 hQ2 => ?_); go_wp2_with (go_at_call 37; refine (HSm.out _).mono ?_; rintro e v4 ⟨rfl, hb4⟩); refine hQ2 _ _ (fun _ => SG.trans (hb4.mono SG.size)) ?_; clear hQ2 Q2
    have S4 := SG.trans (hb4.mono SG.size)
    refine anyG_one (k := 3) (by kernel_rfl) rfl (by rfl) (fun Q2 hQ2 => ?_); go_wp2_with (go_at_call 33; refine (HRf.out _).mono ?_; rintro e v5 ⟨⟨A5, n5, c5, A6, n6, c6, rfl⟩, hb5⟩); refine hQ2 _ _ (fun _ => S4.trans (hb5.mono S4.size)) ?_; clear hQ2 Q2
    have S5 := S4.trans (hb5.mono S4.size)
    refine anyG_takes (is := [4, 5, 6, 7]) (vs := [_, .agg ((ndo cfs ld0 a).row (.slice A5 n5 c5) (.slice A6 n6 c6)), .int .i64 f, .int .i64 (ngone cfs ld0 a)]) (m := 3) (listed2 := #[true, true, true, true, true, true, true, true, true, false, false, false]) (a2 := ⟨#[_, _, _, _, _, _, _, _, _, _, _, _, _, _, _, _, _, _, _, _, _, _, _, _, _, _, _, _, _, _, _, _, _, _, _, _, _, _, _, _, _, _, _, _, _, _, _, _, _, _, _, _, _, _, _, _, _, _, _, _, _, _, _, _, _, _], _⟩) (by kernel_rfl) (fun j hj => by simp at hj) (by kernel_rfl) (fun _ _ _ _ _ h => h) (Ys.cons rfl (Or.inl ⟨by rfl, fun W1 hW1 => by first | rfl | (go_simp; done) | (go_simp; with_reducible rfl)⟩) (Ys.cons rfl (Or.inl ⟨by rfl, fun W1 hW1 => by rfl⟩) (Ys.cons rfl (Or.inl ⟨by rfl, fun W1 hW1 => by rfl⟩) (Ys.cons rfl (Or.inl ⟨by rfl, fun W1 hW1 => by rfl⟩) (Ys.nil))))) (S5) (by rfl) (by rfl) ?_
    refine anyG_one (k := 9) (by kernel_rfl) rfl (by rfl) (fun Q2 hQ2 => ?_); go_wp2_with (refine wpList_store_row rfl 64 (.tmp 7) _ rfl _ _ _ _ rfl rfl (((bG).call hb4).call hb5) (by rfl) (by kernel_rfl) (by simp [Value.oneCell']) ?_; intro uG huG hwG); refine hQ2 _ _ (fun _ => S5.trans (Only.below hwG lG S5.size)) ?_; clear hQ2 Q2
    have SsG := S5.trans (Only.below hwG lG S5.size)
    refine anyG_takes (is := [10, 11]) (vs := [.int .i64 f, .int .i64 (ngone cfs ld0 a)]) (m := 0) (listed2 := #[true, true, true, true, true, true, true, true, true, true, true, true]) (a2 := ⟨#[_, _, _, _, _, _, _, _, _, _, _, _, _, _, _, _, _, _, _, _, _, _, _, _, _, _, _, _, _, _, _, _, _, _, _, _, _, _, _, _, _, _, _, _, _, _, _, _, _, _, _, _, _, _, _, _, _, _, _, _, _, _, _, _, _, _], _⟩) (by kernel_rfl) (fun j hj => by simp at hj) (by kernel_rfl) (fun _ _ _ _ _ h => h) (Ys.cons rfl (Or.inl ⟨by rfl, fun W1 hW1 => by rfl⟩) (Ys.cons rfl (Or.inl ⟨by rfl, fun W1 hW1 => by rfl⟩) (Ys.nil))) (SsG) (by rfl) (by rfl) ?_
    refine anyG_done (by kernel_rfl) ?_ _
    have X6 := Lib.hid (X3.out.call (SsG))
    have E6 := Lib.hid (E3.out.trans (Below.mono (SsG) E3.out.size))
    have a0 := X6.out.cellv (i := 0) (v := .int .i64 k) (by rw [← HK.out]; rfl)
    clear hb4 hb5 X3
    rcases hcases with ⟨q1, rfl⟩ | ⟨rfl, rfl, rfl⟩ | ⟨rfl, q2, rfl, rfl⟩ | ⟨rfl, q2, q3, rfl⟩
    · have d1 : (e == 0) = false := by simpa using q1
      clear q1
      go_wp2_with (first
        | (go_at_call 34; refine (HTo.out _).mono ?_; rintro e v7 ⟨rfl, hb7⟩; have E7 := Lib.hid (E6.out.trans (hb7.mono E6.out.size)); clear hb7)
        | (go_at_call 35; refine (HFr.out _).mono ?_; rintro e v8 ⟨rfl, rfl⟩))
      go_ret
      exact ⟨rfl, E7.out⟩
    · go_wp2_with (first
        | (go_at_call 34; refine (HTo.out _).mono ?_; rintro e v7 ⟨rfl, hb7⟩; have E7 := Lib.hid (E6.out.trans (hb7.mono E6.out.size)); clear hb7)
        | (go_at_call 35; refine (HFr.out _).mono ?_; rintro e v8 ⟨rfl, rfl⟩))
      go_ret
      exact ⟨rfl, E7.out⟩
    · clear q2
      go_wp2_with (first
        | (go_at_call 34; refine (HTo.out _).mono ?_; rintro e v7 ⟨rfl, hb7⟩; have E7 := Lib.hid (E6.out.trans (hb7.mono E6.out.size)); clear hb7)
        | (go_at_call 35; refine (HFr.out _).mono ?_; rintro e v8 ⟨rfl, rfl⟩))
      go_ret
      exact ⟨rfl, E7.out⟩
    · have d2 : (k == 0) = false := by simpa using q2
      have d3 : (k == 2) = false := by simpa using q3
      clear q2 q3
      go_wp2_with (first
        | (go_at_call 34; refine (HTo.out _).mono ?_; rintro e v7 ⟨rfl, hb7⟩; have E7 := Lib.hid (E6.out.trans (hb7.mono E6.out.size)); clear hb7)
        | (go_at_call 35; refine (HFr.out _).mono ?_; rintro e v8 ⟨rfl, rfl⟩))
      go_ret
      exact ⟨rfl, E7.out⟩
end Go.Proofs.Ytfeccjjheiillaa
