/- Several texts in one. -/
import Derived.Test.YtfeccjjheiillaaKNodeNone3
/- Chapter 17: an act, as the law does it. (fast region) -/
namespace Go.Proofs.Ytfeccjjheiillaa
open Go.RowKit
set_option linter.unusedSimpArgs false
set_option linter.unusedVariables false
set_option maxHeartbeats 4000000
set_option maxRecDepth 100000
theorem node_Freeze2 (p : Option Addr) (F : Nat → Prop) (c : Cfg) (x : Ld) (fr : Bool) (w : World) (h : NodeAt w p F c x fr) :
    Calls Try.prog 36 #[.pointer p] w (fun e w' => e = .returned (.pointer p) ∧ NodeAt w' p F c x true ∧ Upd F w w' ∧ (fr = true → Below w.heap.size w w')) := by
  have HM := Lib.hid (node_made p F c x fr w h)
  obtain ⟨g, gs, ph, rfl, hb, hF, hr⟩ := h.row
  have c10 := hb.cellv (i := 10) (v := .bool fr) rfl
  have f10 := hb.frozen 10
  have HR := Lib.hid hr
  have HB := Lib.hid hb
  clear h hb hr hF
  go_enter Try.func36, Try.ntmps36
  go_wp2_with (go_at_call 76; refine HM.out.mono ?_; rintro e w1 ⟨rfl, rfl⟩)
  go_ret
  have hB2 : Blk (w.setCell ⟨g, 10, none⟩ (.bool true)) g ndT (nrow x (.pointer (some ⟨gs, 0, none⟩)) (.pointer ph) true) := HB.out.set_ 10 _
  have hu := ((Upd.refl (fun k => k = g) w).setCell (p := ⟨g, 10, none⟩) (.inl rfl) (.bool true))
  obtain ⟨k1, k2⟩ := HR.out x true _ hB2 hu rfl rfl
  refine ⟨rfl, k1, k2, fun e => ?_⟩
  subst e
  refine ⟨hu.os, hu.tape, hu.output, hu.size, fun k hk => ?_⟩
  by_cases e : k = g
  · subst e; exact hB2.trans HB.out.symm
  · exact hu.block k hk e
def NRes2 (p : Option Addr) (F : Nat → Prop) (c : Cfg) (x : Ld) (fr : Bool) (y : Ld) (fr' : Bool) (w : World) (p' : Option Addr) (w' : World) : Prop := (∃ F', NodeAt w' p' F' c y fr' ∧ NStep F fr w w' F') ∨ (p' = p ∧ y = x ∧ fr' = fr ∧ NodeAt w' p F c x fr ∧ Below w.heap.size w w')
def nfr (c : Cfg) (x : Ld) (fr : Bool) (a : NAct) : Bool := if 0 ≤ a.kind ∧ a.kind ≤ 3 then (if (ndo c x a).ver = x.ver then fr else false) else true
theorem NRes.lift {p p' : Option Addr} {F : Nat → Prop} {c : Cfg} {x y : Ld} {fr : Bool} {w w0 w' : World} (h : NRes p F c x fr y w0 p' w') (hb : Below w.heap.size w w0) : NRes2 p F c x fr y (if y.ver = x.ver then fr else false) w p' w' := by
  rcases h with ⟨F', h1, h2, h3⟩ | ⟨rfl, rfl, h3, h4⟩
  · left
    rw [if_neg (by omega)]
    exact ⟨F', h1, h2.pre hb⟩
  · right
    rw [if_pos rfl]
    exact ⟨rfl, rfl, rfl, h3, hb.trans (h4.mono hb.size)⟩
def DoN (p : Option Addr) (F : Nat → Prop) (c : Cfg) (x : Ld) (fr : Bool) (a : NAct) (w : World) (e : Ending) (w' : World) : Prop := ∃ p', e = .returned (.tuple #[.pointer p', .int .i64 (nerr a), .int .i64 (if a.kind = 1 then goneq x a.tick else 0)]) ∧ NRes2 p F c x fr (ndo c x a) (nfr c x fr a) w p' w'
theorem DoN.eq {p : Option Addr} {F : Nat → Prop} {c : Cfg} {x : Ld} {fr : Bool} {a : NAct} {w : World} {Y : Ld} {E G : Int} (hy : ndo c x a = Y) (he : nerr a = E) (hg : (if a.kind = 1 then goneq x a.tick else 0) = G) (hk : 0 ≤ a.kind ∧ a.kind ≤ 3) :
    DoN p F c x fr a w = fun e w' => ∃ p', e = .returned (.tuple #[.pointer p', .int .i64 E, .int .i64 G]) ∧ NRes2 p F c x fr Y (if Y.ver = x.ver then fr else false) w p' w' := by
  unfold DoN nfr; rw [hg, hy, he, if_pos hk]
theorem ret_p3 {p : Option Addr} {a b c d : Int} (h1 : a = c) (h2 : b = d) : Ending.returned (.tuple #[.pointer p, .int .i64 a, .int .i64 b]) = .returned (.tuple #[.pointer p, .int .i64 c, .int .i64 d]) := by rw [h1, h2]
theorem law_do (p : Option Addr) (F : Nat → Prop) (c : Cfg) (x : Ld) (fr : Bool) (a : NAct) (w : World) (h : NodeAt w p F c x fr) (hc : c.okC) (k : Nat) (hx : LdOk c x k) (hk : k ≤ 100) :
    Calls Try.prog 32 #[.pointer p, .agg a.row] w (DoN p F c x fr a w) := by
  have B0 := Lib.hid (show Below w.heap.size w (w.alloc (.cells a.row acT)) by go_grown)
  have N0 := Lib.hid (h.call B0.out)
  have hX := Blk.new w acT a.row
  have hv : 0 ≤ x.ver ∧ x.ver ≤ 1000 := ⟨hx.v0, by have := hx.v1; omega⟩
  have HSrt := Lib.hid hx.srt
  by_cases k0 : a.kind = 0
  · have hy : ndo c x a = nput c x a.tick a.value := by unfold ndo; rw [if_pos k0]
    have he : nerr a = serErr a.tick a.value := by unfold nerr; rw [if_pos k0]
    have HQ := Lib.hid (DoN.eq (p := p) (F := F) (fr := fr) (w := w) hy he (G := 0) (by rw [if_neg (by omega)]) (by omega))
    have HP := Lib.hid (node_Put p F c x fr a.tick a.value _ N0.out hc hv)
    obtain ⟨kind, tick, value, pol, adv⟩ := a
    obtain rfl : kind = 0 := k0
    have a0 := hX.cellv (i := 0) (v := .int .i64 0) rfl
    have a1 := hX.cellv (i := 1) (v := .int .i64 tick) rfl
    have a2 := hX.cellv (i := 2) (v := .int .i64 value) rfl
    simp only at HQ HP
    generalize nput c x tick value = Y at *
    generalize serErr tick value = ER at *
    clear h hX hv hy he hx hc hk
    go_enter Try.func32, Try.ntmps32
    go_wp2_with (go_at_call 63; refine HP.out.mono ?_; rintro e w1 ⟨p1, rfl, hres⟩; have R1 := Lib.hid hres; clear hres)
    go_ret3
    rw [HQ.out]
    exact ⟨_, rfl, R1.out.lift B0.out⟩
  by_cases k1 : a.kind = 1
  · have hy : ndo c x a = ntrim x a.tick := by unfold ndo; rw [if_neg k0, if_pos k1]
    have he : nerr a = 0 := by unfold nerr; rw [if_neg k0, if_neg (by omega)]
    have HQ := Lib.hid (DoN.eq (p := p) (F := F) (fr := fr) (w := w) hy he (G := goneq x a.tick) (by rw [if_pos k1]) (by omega))
    have HP := Lib.hid (node_Trim p F c x fr a.tick _ N0.out HSrt.out hv)
    obtain ⟨kind, tick, value, pol, adv⟩ := a
    obtain rfl : kind = 1 := k1
    have a0 := hX.cellv (i := 0) (v := .int .i64 1) rfl
    have a1 := hX.cellv (i := 1) (v := .int .i64 tick) rfl
    simp only at HQ HP
    generalize ntrim x tick = Y at *
    generalize goneq x tick = GN at *
    clear h hX hv hy he hx hc hk k0
    go_enter Try.func32, Try.ntmps32
    go_wp2_with (go_at_call 67; refine HP.out.mono ?_; rintro e w1 ⟨p1, rfl, hres⟩; have R1 := Lib.hid hres; clear hres)
    go_ret3
    rw [HQ.out]
    exact ⟨_, rfl, R1.out.lift B0.out⟩
  by_cases k2 : a.kind = 2
  · have hy : ndo c x a = nset x a.pol := by unfold ndo; rw [if_neg k0, if_neg k1, if_pos k2]
    have he : nerr a = polErr a.pol := by unfold nerr; rw [if_neg k0, if_pos k2]
    have HQ := Lib.hid (DoN.eq (p := p) (F := F) (fr := fr) (w := w) hy he (G := 0) (by rw [if_neg k1]) (by omega))
    have HP := Lib.hid (node_Set p F c x fr a.pol _ N0.out hv)
    obtain ⟨kind, tick, value, pol, adv⟩ := a
    obtain rfl : kind = 2 := k2
    have a0 := hX.cellv (i := 0) (v := .int .i64 2) rfl
    have a3 := hX.cellv (i := 3) (v := .int .i64 pol.min) rfl
    have a4 := hX.cellv (i := 4) (v := .int .i64 pol.max) rfl
    have a5 := hX.cellv (i := 5) (v := .int .i64 pol.target) rfl
    have a6 := hX.cellv (i := 6) (v := .int .i64 pol.tol) rfl
    have a7 := hX.cellv (i := 7) (v := .int .i64 pol.window) rfl
    have a8 := hX.cellv (i := 8) (v := .int .i64 pol.hold) rfl
    simp only at HQ HP
    generalize nset x pol = Y at *
    generalize polErr pol = ER at *
    clear h hX hv hy he hx hc hk k0 k1
    go_enter Try.func32, Try.ntmps32
    go_wp2_with (go_at_call 68; refine HP.out.mono ?_; rintro e w1 ⟨p1, rfl, hres⟩; have R1 := Lib.hid hres; clear hres)
    go_ret3
    rw [HQ.out]
    exact ⟨_, rfl, R1.out.lift B0.out⟩
  by_cases k3 : a.kind = 3
  · have hy : ndo c x a = nnote c x a.adv := by unfold ndo; rw [if_neg k0, if_neg k1, if_neg k2, if_pos k3]
    have he : nerr a = 0 := by unfold nerr; rw [if_neg k0, if_neg k2]
    have HQ := Lib.hid (DoN.eq (p := p) (F := F) (fr := fr) (w := w) hy he (G := 0) (by rw [if_neg k1]) (by omega))
    have HP := Lib.hid (node_Note p F c x fr a.adv _ N0.out hc hv)
    obtain ⟨kind, tick, value, pol, adv⟩ := a
    obtain rfl : kind = 3 := k3
    have a0 := hX.cellv (i := 0) (v := .int .i64 3) rfl
    have a3 := hX.cellv (i := 9) (v := .int .i64 adv.tick) rfl
    have a4 := hX.cellv (i := 10) (v := .int .i64 adv.load) rfl
    have a5 := hX.cellv (i := 11) (v := .int .i64 adv.want) rfl
    have a6 := hX.cellv (i := 12) (v := .int .i64 adv.repl) rfl
    have a7 := hX.cellv (i := 13) (v := .int .i64 adv.why) rfl
    simp only at HQ HP
    generalize nnote c x adv = Y at *
    clear h hX hv hy he hx hc hk k0 k1 k2
    go_enter Try.func32, Try.ntmps32
    go_wp2_with (go_at_call 69; refine HP.out.mono ?_; rintro e w1 ⟨p1, rfl, hres⟩; have R1 := Lib.hid hres; clear hres)
    go_ret3
    rw [HQ.out]
    exact ⟨_, rfl, R1.out.lift B0.out⟩
  · have hy : ndo c x a = x := by unfold ndo; rw [if_neg k0, if_neg k1, if_neg k2, if_neg k3]
    have he : nerr a = 0 := by unfold nerr; rw [if_neg k0, if_neg k2]
    have hf : nfr c x fr a = true := by unfold nfr; rw [if_neg (by omega)]
    have HQ := Lib.hid (show DoN p F c x fr a w = fun e w' => ∃ p', e = .returned (.tuple #[.pointer p', .int .i64 0, .int .i64 0]) ∧ NRes2 p F c x fr x true w p' w' from by unfold DoN; rw [hy, he, hf, if_neg k1])
    have HP := Lib.hid (node_Freeze2 p F c x fr _ N0.out)
    have a0 := hX.cellv (i := 0) (v := .int .i64 a.kind) rfl
    have d0 : (a.kind == 0) = false := by simpa using k0
    have d1 : (a.kind == 1) = false := by simpa using k1
    have d2 : (a.kind == 2) = false := by simpa using k2
    have d3 : (a.kind == 3) = false := by simpa using k3
    clear h hX hv hy he hf hx hc hk k0 k1 k2 k3
    go_enter Try.func32, Try.ntmps32
    go_wp2_with (go_at_call 36; refine HP.out.mono ?_; rintro e w1 ⟨rfl, hn1, hu1, hb1⟩; have R1 := Lib.hid (And.intro hn1 (And.intro hu1 hb1)); clear hn1 hu1 hb1)
    go_ret3
    rw [HQ.out]
    refine ⟨_, rfl, ?_⟩
    obtain ⟨r1, r2, r3⟩ := R1.out
    cases fr
    · exact .inl ⟨F, r1, (Upd.of_below B0.out).trans r2 (fun k hk => .inl hk), fun k hk => .inl hk, fun e => by cases e⟩
    · exact .inr ⟨rfl, rfl, rfl, r1, B0.out.trans ((r3 rfl).mono B0.out.size)⟩
end Go.Proofs.Ytfeccjjheiillaa
/- flywheelref17.Do: a change is made. (fast region) -/
namespace Go.Proofs.Ytfeccjjheiillaa
open Go.RowKit
set_option linter.unusedSimpArgs false
set_option linter.unusedVariables false
set_option maxHeartbeats 4000000
set_option maxRecDepth 100000
theorem DoS.eq {c : Cfg} {x : Ld} {a : NAct} {s0 h0 : Value} {w : World} {Y : Ld} {E : Int} (hy : ndo c x a = Y) (he : nerr a = E) : DoS c x a s0 h0 w = fun e w' => ∃ s h, e = .returned (.tuple #[.agg (Y.row s h), .int .i64 E, .int .i64 ((x.smps.length : Int) - (Y.smps.length : Int))]) ∧ LdAt w' Y s h ∧ Below w.heap.size w w' ∧ NewSl w s0 s ∧ NewSl w h0 h := by
  unfold DoS ngone; rw [hy, he]
theorem ref17_Do_put_no (c : Cfg) (x : Ld) (a : NAct) (A : Option Addr) (n cp : Nat) (A2 : Option Addr) (n2 c2 : Nat) (w : World) (hs : SmpsAre w A n cp x.smps) (hh : AdvsAre w A2 n2 c2 x.past) (hc : c.okC) (k : Nat) (hx : LdOk c x k) (hk : k ≤ 100) (ha : a.kind = 0) (he : serErr a.tick a.value ≠ 0) :
    Calls Try.prog 33 #[.agg c.row, .agg (x.row (.slice A n cp) (.slice A2 n2 c2)), .agg a.row] w (DoS c x a (.slice A n cp) (.slice A2 n2 c2) w) := by
  have HS := Lib.hid hs
  have HH := Lib.hid hh
  have X0 := Lib.hid (DoI.pre w c x (.slice A n cp) (.slice A2 n2 c2) a)
  have I0 := Lib.hid (DoI.start w c x (.slice A n cp) (.slice A2 n2 c2) a)
  have hn : n ≤ 256 := by rw [← hs.1]; have := hx.slen; have := hc.2.2.1; omega
  have hn2 : n2 ≤ 64 := by rw [← hh.1]; have := hx.plen; have := hc.2.2.2.2.2.2; omega
  have hnl : x.smps.length = n := hs.1
  have HNL := Lib.hid hnl
  have v0 := hx.v0
  have v1 : x.ver ≤ 100 := by have := hx.v1; omega
  have hy : ndo c x a = x := by unfold ndo; rw [if_pos ha]; exact if_neg he
  have hE : nerr a = serErr a.tick a.value := by unfold nerr; rw [if_pos ha]
  have HQ := Lib.hid (DoS.eq (s0 := .slice A n cp) (h0 := .slice A2 n2 c2) (w := w) hy hE)
  have HRt := Lib.hid (fun W => ref08_Right a.tick a.value W)
  have de : (serErr a.tick a.value != 0) = true := by simpa using he
  have HZ := Lib.hid (show (x.smps.length : Int) - (x.smps.length : Int) = 0 by omega)
  rw [HZ.out] at HQ
  obtain ⟨kind, tick, value, pol, adv⟩ := a
  obtain rfl : kind = 0 := ha
  simp only at HRt de HQ
  generalize serErr tick value = ER at *
  clear hs hh hx hc he hy hE hnl
  go_enter Try.func33, Try.ntmps33
  go_wp2_with (first
    | (refine Blk.load rfl 64 (.tmp 4) (by with_reducible rfl) _ _ _ _ rfl X0.out Try.underlying64 rfl (by kernel_rfl) ?_)
    | (refine wpList_store_row rfl 64 (.tmp 9) (.tmp 11) rfl (w.heap.size + 4) _ _ _ rfl rfl I0.out.ob (by rfl) (by kernel_rfl) (row_one _ _ _ _ _ _ _) ?_; intro w5 hb5 hg5; have I5 := Lib.hid (I0.out.store hb5 hg5); have a0 := I5.out.ab.cellv (i := 0) (v := .int .i64 0) rfl; have a1 := I5.out.ab.cellv (i := 1) (v := .int .i64 tick) rfl; have a2 := I5.out.ab.cellv (i := 2) (v := .int .i64 value) rfl; clear hb5 hg5)
    | (go_at_call 50; refine (HRt.out _).mono ?_; rintro e w6 ⟨rfl, rfl⟩)
    | (refine Blk.load rfl 64 (.tmp 4) rfl _ _ _ _ rfl I5.out.xb Try.underlying64 rfl (by kernel_rfl) ?_)
    | (refine wpList_store_row rfl 64 (.tmp 6) (.tmp 26) rfl (w.heap.size + 3) _ _ _ rfl rfl I5.out.rb (by rfl) (by kernel_rfl) (row_one _ _ _ _ _ _ _) ?_; intro w9 hb9 hg9; have B9 := Lib.hid hb9; have E9 := Lib.hid (I5.out.bel.trans (Only.below hg9 (by omega) I5.out.bel.size)); clear hb9 hg9))
  refine bodyPost_ret (results_row_tmp2 rfl _ _ (w.heap.size + 3) _ _ _ rfl B9.out Try.underlying64 rfl (by kernel_rfl)) rfl ?_
  rw [HQ.out]
  exact ⟨_, _, rfl, ⟨_, _, _, _, _, _, rfl, rfl, slice_keep HS.out E9.out, slice_keep HH.out E9.out⟩, E9.out, .inl rfl, .inl rfl⟩
theorem ref17_Do_put (c : Cfg) (x : Ld) (a : NAct) (A : Option Addr) (n cp : Nat) (A2 : Option Addr) (n2 c2 : Nat) (w : World) (hs : SmpsAre w A n cp x.smps) (hh : AdvsAre w A2 n2 c2 x.past) (hc : c.okC) (k : Nat) (hx : LdOk c x k) (hk : k ≤ 100) (ha : a.kind = 0) (he : serErr a.tick a.value = 0) :
    Calls Try.prog 33 #[.agg c.row, .agg (x.row (.slice A n cp) (.slice A2 n2 c2)), .agg a.row] w (DoS c x a (.slice A n cp) (.slice A2 n2 c2) w) := by
  have HS := Lib.hid hs
  have HH := Lib.hid hh
  have X0 := Lib.hid (DoI.pre w c x (.slice A n cp) (.slice A2 n2 c2) a)
  have I0 := Lib.hid (DoI.start w c x (.slice A n cp) (.slice A2 n2 c2) a)
  have hn : n ≤ 256 := by rw [← hs.1]; have := hx.slen; have := hc.2.2.1; omega
  have hn2 : n2 ≤ 64 := by rw [← hh.1]; have := hx.plen; have := hc.2.2.2.2.2.2; omega
  have hnl : x.smps.length = n := hs.1
  have HNL := Lib.hid hnl
  have v0 := hx.v0
  have v1 : x.ver ≤ 100 := by have := hx.v1; omega
  have hy : ndo c x a = ⟨putq x.smps c.smp.toNat ⟨a.tick, a.value⟩, x.past, x.pol, x.ruled, x.ver + 1⟩ := by unfold ndo; rw [if_pos ha]; exact if_pos he
  have hE : nerr a = 0 := by unfold nerr; rw [if_pos ha]; exact he
  have HQ := Lib.hid (DoS.eq (s0 := .slice A n cp) (h0 := .slice A2 n2 c2) (w := w) hy hE)
  have HRt := Lib.hid (fun W => ref08_Right a.tick a.value W)
  rw [he] at HRt
  have HPl := Lib.hid (len_putq hx.slen (by have := hc.2.1; omega) ⟨a.tick, a.value⟩)
  obtain ⟨rm, hrm⟩ : ∃ rm : Nat, c.smp = rm := ⟨c.smp.toNat, by have := hc.2.1; omega⟩
  have hrm2 : rm ≤ 256 := by have := hc.2.2.1; omega
  have HP := Lib.hid (fun W hW => ref08_Put A n cp x.smps rm ⟨a.tick, a.value⟩ W hW (by omega) hx.srt (by omega))
  rw [show c.smp.toNat = rm by omega] at HQ HPl
  obtain ⟨kind, tick, value, pol, adv⟩ := a
  obtain rfl : kind = 0 := ha
  obtain ⟨cs, csm, cl, ch⟩ := c
  obtain rfl : csm = rm := hrm
  simp only at HRt HP HQ HPl
  generalize putq x.smps rm ⟨tick, value⟩ = Q at *
  clear hs hh hx hc he hy hE hnl
  go_enter Try.func33, Try.ntmps33
  focus (go_upto_region 21 with (first
    | (refine Blk.load rfl 64 (.tmp 4) (by with_reducible rfl) _ _ _ _ rfl X0.out Try.underlying64 rfl (by kernel_rfl) ?_)
    | (refine wpList_store_row rfl 64 (.tmp 9) (.tmp 11) rfl (w.heap.size + 4) _ _ _ rfl rfl I0.out.ob (by rfl) (by kernel_rfl) (row_one _ _ _ _ _ _ _) ?_; intro w5 hb5 hg5; have I5 := Lib.hid (I0.out.store hb5 hg5); have a0 := I5.out.ab.cellv (i := 0) (v := .int .i64 0) rfl; have a1 := I5.out.ab.cellv (i := 1) (v := .int .i64 tick) rfl; have a2 := I5.out.ab.cellv (i := 2) (v := .int .i64 value) rfl; have x0 := I5.out.xb.cellv (i := 0) (v := .slice A n cp) rfl; have c1 := I5.out.cb.cellv (i := 1) (v := .int .i64 rm) rfl; clear hb5 hg5)
    | (go_at_call 50; refine (HRt.out _).mono ?_; rintro e w6 ⟨rfl, rfl⟩)
    | (go_at_call 40; refine (HP.out _ (slice_keep HS.out I5.out.bel)).mono ?_; rintro e w7 ⟨A5, n5, c5, rfl, hs5, hb5, hab⟩; have HA5 := Lib.hid (fun a ha => Nat.lt_of_lt_of_le I5.out.ob.lt (hab a ha).1); clear hab; have S5 := Lib.hid hs5; have I7 := Lib.hid (I5.out.call hb5); have o0 := I7.out.ob.cellv (i := 0) (v := .slice A n cp) rfl; have f0 := I7.out.ob.frozen 0; have o9 := I7.out.ob.cellv (i := 9) (v := .int .i64 x.ver) rfl; have f9 := I7.out.ob.frozen 9; have x9 := I7.out.xb.cellv (i := 9) (v := .int .i64 x.ver) rfl; clear hs5 hb5 a1 a2 x0 c1)))
  have hn5 : n5 ≤ 256 := by rw [← S5.out.1]; have := HPl.out; omega
  have HGN := Lib.hid (show ((x.smps.length : Int) - (Q.length : Int)) = (n : Int) - (n5 : Int) by have := HNL.out; have := S5.out.1; omega)
  clear o0 f0 o9 f9 x9
  have I6 := Lib.hid ((I7.out.set 0 (.slice A5 n5 c5) (o' := (⟨Q, x.past, x.pol, x.ruled, x.ver⟩ : Ld).row (.slice A5 n5 c5) (.slice A2 n2 c2)) rfl).set 9 (.int .i64 (x.ver + 1)) (o' := (⟨Q, x.past, x.pol, x.ruled, x.ver + 1⟩ : Ld).row (.slice A5 n5 c5) (.slice A2 n2 c2)) rfl)
  have S6 := Lib.hid (show SmpsAre ((w7.setCell ⟨w.heap.size + 4, 0, none⟩ (.slice A5 n5 c5)).setCell ⟨w.heap.size + 4, 9, none⟩ (.int .i64 (x.ver + 1))) A5 n5 c5 Q from slice_upd S5.out (((Upd.refl (fun k => k = w.heap.size + 4) w7).setCell (.inl rfl) _).setCell (.inl rfl) _) (fun a ha e => by have h1 := HA5.out a ha; have h2 : a.block = w.heap.size + 4 := e; omega))
  generalize (w7.setCell ⟨w.heap.size + 4, 0, none⟩ (.slice A5 n5 c5)).setCell ⟨w.heap.size + 4, 9, none⟩ (.int .i64 (x.ver + 1)) = w6 at *
  clear a0
  refine wp_region_any (by kernel_rfl) ?_; change wpAny _ _ _ _ _ _ _ (World.drew w6); refine any_of_anyG (late := fun _ => false) (S := fun wS => Upd (fun k => k = w.heap.size + 3) w6 wS) _ _ _ _ ?_
  have S0 := (Upd.refl (fun k => k = w.heap.size + 3) w6).drew
  refine anyG_takes (is := [0, 1, 2, 3, 4]) (vs := [_, _, .slice A n cp, .int .i64 n, _]) (m := 6) (listed2 := #[true, true, true, true, true, false, false, false, false, false, false]) (a2 := ⟨#[_, _, _, _, _, _, _, _, _, _, _, _, _, _, _, _, _, _, _, _, _, _, _, _, _, _, _, _, _, _, _, _, _, _, _, _, _, _, _, _, _, _, _, _, _, _, _, _, _, _, _, _, _, _, _, _, _, _, _, _, _, _, _, _, _, _, _, _, _, _, _, _, _, _, _, _, _, _, _, _, _, _, _, _, _, _], _⟩) (by kernel_rfl) (fun j hj => by simp at hj) (by kernel_rfl) (fun _ _ _ _ _ h => h) (Ys.cons rfl (Or.inl ⟨by rfl, fun W1 hW1 => exec_load (ty := 64) (x := .tmp 9) rfl rfl (run_loadAt_blk _ _ _ _ _ _ (I6.out.ob.upd hW1 (by show ¬ w.heap.size + 4 = w.heap.size + 3; omega)) Try.underlying64 rfl (by first | kernel_rfl | exact info_num _))⟩) (Ys.cons rfl (Or.inl ⟨by rfl, fun W1 hW1 => by first | rfl | (go_simp; done) | (go_simp; with_reducible rfl)⟩) (Ys.cons rfl (Or.inl ⟨by rfl, fun W1 hW1 => by have c := (I6.out.xb.upd hW1 (by show ¬ w.heap.size + 1 = w.heap.size + 3; omega)).cellv (i := 0) (v := .slice A n cp) rfl; go_simp⟩) (Ys.cons rfl (Or.inl ⟨by rfl, fun W1 hW1 => by first | rfl | (go_simp; done)⟩) (Ys.cons rfl (Or.inl ⟨by rfl, fun W1 hW1 => by first | rfl | (go_simp; done) | (go_simp; with_reducible rfl)⟩) (Ys.nil)))))) (S0) (by rfl) (by rfl) ?_
  refine anyG_takes (is := [5, 6, 7]) (vs := [.slice A5 n5 c5, .int .i64 n5, .int .i64 ((n : Int) - (n5 : Int))]) (m := 3) (listed2 := #[true, true, true, true, true, true, true, true, false, false, false]) (a2 := ⟨#[_, _, _, _, _, _, _, _, _, _, _, _, _, _, _, _, _, _, _, _, _, _, _, _, _, _, _, _, _, _, _, _, _, _, _, _, _, _, _, _, _, _, _, _, _, _, _, _, _, _, _, _, _, _, _, _, _, _, _, _, _, _, _, _, _, _, _, _, _, _, _, _, _, _, _, _, _, _, _, _, _, _, _, _, _, _], _⟩) (by kernel_rfl) (fun j hj => by simp at hj) (by kernel_rfl) (fun _ _ _ _ _ h => h) (Ys.cons rfl (Or.inl ⟨by rfl, fun W1 hW1 => by have c := (I6.out.ob.upd hW1 (by show ¬ w.heap.size + 4 = w.heap.size + 3; omega)).cellv (i := 0) (v := .slice A5 n5 c5) rfl; go_simp⟩) (Ys.cons rfl (Or.inl ⟨by rfl, fun W1 hW1 => by first | rfl | (go_simp; done)⟩) (Ys.cons rfl (Or.inl ⟨by rfl, fun W1 hW1 => by first | (go_simp; done) | (go_simp; exact IntWalk.i64_in _ (by omega))⟩) (Ys.nil)))) (S0) (by rfl) (by rfl) ?_
  refine anyG_one (k := 8) (by kernel_rfl) rfl (by rfl) (fun Q2 hQ2 => ?_); go_wp2_with (refine wpList_store_row rfl 64 (.tmp 6) (.tmp 78) rfl (w.heap.size + 3) _ _ _ rfl rfl I6.out.rb.drew (by rfl) (by kernel_rfl) (row_one _ _ _ _ _ _ _) ?_; intro w9 hb9 hg9); refine hQ2 _ _ (fun _ => (S0).grown hg9 (fun k e => by injection e with e; exact .inl e.symm)) ?_; clear hQ2 Q2
  have S9 := (S0).grown hg9 (fun k e => by injection e with e; exact .inl e.symm)
  refine anyG_takes (is := [9, 10]) (vs := [.int .i64 0, .int .i64 ((n : Int) - (n5 : Int))]) (m := 0) (listed2 := #[true, true, true, true, true, true, true, true, true, true, true]) (a2 := ⟨#[_, _, _, _, _, _, _, _, _, _, _, _, _, _, _, _, _, _, _, _, _, _, _, _, _, _, _, _, _, _, _, _, _, _, _, _, _, _, _, _, _, _, _, _, _, _, _, _, _, _, _, _, _, _, _, _, _, _, _, _, _, _, _, _, _, _, _, _, _, _, _, _, _, _, _, _, _, _, _, _, _, _, _, _, _, _], _⟩) (by kernel_rfl) (fun j hj => by simp at hj) (by kernel_rfl) (fun _ _ _ _ _ h => h) (Ys.cons rfl (Or.inl ⟨by rfl, fun W1 hW1 => by rfl⟩) (Ys.cons rfl (Or.inl ⟨by rfl, fun W1 hW1 => by rfl⟩) (Ys.nil))) (S9) (by rfl) (by rfl) ?_
  refine anyG_done (by kernel_rfl) ?_ _
  have E9 := Lib.hid (I6.out.bel.trans (Upd.below (S9) (fun k hk => by omega) I6.out.bel.size))
  go_wp2
  refine bodyPost_ret (results_row_tmp2 rfl _ _ (w.heap.size + 3) _ _ _ rfl hb9 Try.underlying64 rfl (by kernel_rfl)) rfl ?_
  rw [HQ.out]
  exact ⟨_, _, (by rw [HGN.out]; rfl), ⟨_, _, _, _, _, _, rfl, rfl, slice_upd S6.out (S9) (fun a ha e => by have h1 := HA5.out a ha; have h2 : a.block = w.heap.size + 3 := e; omega), slice_keep HH.out E9.out⟩, E9.out, .inr (fun a n4 c4 e => by injection e with e1; have h1 := HA5.out a e1; omega), .inl rfl⟩
end Go.Proofs.Ytfeccjjheiillaa
/- flywheelref17.Do: a change is made. (fast region) -/
namespace Go.Proofs.Ytfeccjjheiillaa
open Go.RowKit
set_option linter.unusedSimpArgs false
set_option linter.unusedVariables false
set_option maxHeartbeats 4000000
set_option maxRecDepth 100000
theorem ref17_Do_trim_no (c : Cfg) (x : Ld) (a : NAct) (A : Option Addr) (n cp : Nat) (A2 : Option Addr) (n2 c2 : Nat) (w : World) (hs : SmpsAre w A n cp x.smps) (hh : AdvsAre w A2 n2 c2 x.past) (hc : c.okC) (k : Nat) (hx : LdOk c x k) (hk : k ≤ 100) (ha : a.kind = 1) (he : (froms x.smps a.tick).length = x.smps.length) :
    Calls Try.prog 33 #[.agg c.row, .agg (x.row (.slice A n cp) (.slice A2 n2 c2)), .agg a.row] w (DoS c x a (.slice A n cp) (.slice A2 n2 c2) w) := by
  have HS := Lib.hid hs
  have HH := Lib.hid hh
  have X0 := Lib.hid (DoI.pre w c x (.slice A n cp) (.slice A2 n2 c2) a)
  have I0 := Lib.hid (DoI.start w c x (.slice A n cp) (.slice A2 n2 c2) a)
  have hn : n ≤ 256 := by rw [← hs.1]; have := hx.slen; have := hc.2.2.1; omega
  have hn2 : n2 ≤ 64 := by rw [← hh.1]; have := hx.plen; have := hc.2.2.2.2.2.2; omega
  have hnl : x.smps.length = n := hs.1
  have HNL := Lib.hid hnl
  have v0 := hx.v0
  have v1 : x.ver ≤ 100 := by have := hx.v1; omega
  have hy : ndo c x a = x := by unfold ndo; rw [if_neg (by omega), if_pos ha]; exact if_pos he
  have hE : nerr a = 0 := by unfold nerr; rw [if_neg (by omega), if_neg (by omega)]
  have HQ := Lib.hid (DoS.eq (s0 := .slice A n cp) (h0 := .slice A2 n2 c2) (w := w) hy hE)
  have HZ := Lib.hid (show (x.smps.length : Int) - (x.smps.length : Int) = 0 by omega)
  rw [HZ.out] at HQ
  have HT := Lib.hid (fun W hW => ref08_Trim A n cp x.smps a.tick W hW (by omega))
  obtain ⟨kind, tick, value, pol, adv⟩ := a
  obtain rfl : kind = 1 := ha
  simp only at HT HQ he
  have HE := Lib.hid he
  clear hs hh hx hc he hy hE hnl
  go_enter Try.func33, Try.ntmps33
  go_wp2_with (first
    | (refine Blk.load rfl 64 (.tmp 4) (by with_reducible rfl) _ _ _ _ rfl X0.out Try.underlying64 rfl (by kernel_rfl) ?_)
    | (refine wpList_store_row rfl 64 (.tmp 9) (.tmp 11) rfl (w.heap.size + 4) _ _ _ rfl rfl I0.out.ob (by rfl) (by kernel_rfl) (row_one _ _ _ _ _ _ _) ?_; intro w5 hb5 hg5; have I5 := Lib.hid (I0.out.store hb5 hg5); have a0 := I5.out.ab.cellv (i := 0) (v := .int .i64 1) rfl; have a1 := I5.out.ab.cellv (i := 1) (v := .int .i64 tick) rfl; have x0 := I5.out.xb.cellv (i := 0) (v := .slice A n cp) rfl; clear hb5 hg5)
    | (go_at_call 70; refine (HT.out _ (slice_keep HS.out I5.out.bel)).mono ?_; rintro e w7 ⟨A5, n5, c5, rfl, ho5, hb5⟩; have hs5 := ho5.is smp_len; have HA5 := Lib.hid (fun (a : Addr) (ha : A5 = some a) => (show w.heap.size + 4 < a.block from Nat.lt_of_lt_of_le I5.out.ob.lt (World.ownsRow.lt ho5 a.block (by rw [ha]; rfl)).1)); clear ho5; have S5 := Lib.hid hs5; have I7 := Lib.hid (I5.out.call hb5); have o0 := I7.out.ob.cellv (i := 0) (v := .slice A n cp) rfl; have f0 := I7.out.ob.frozen 0; have o9 := I7.out.ob.cellv (i := 9) (v := .int .i64 x.ver) rfl; have f9 := I7.out.ob.frozen 9; have x9 := I7.out.xb.cellv (i := 9) (v := .int .i64 x.ver) rfl; have x07 := I7.out.xb.cellv (i := 0) (v := .slice A n cp) rfl; obtain rfl : n5 = n := (by have h1 := hs5.1; have h2 := HE.out; have h3 := HNL.out; omega); have I8 := Lib.hid (I7.out.set 0 (.slice A5 n5 c5) (o' := (⟨x.smps, x.past, x.pol, x.ruled, x.ver⟩ : Ld).row (.slice A5 n5 c5) (.slice A2 n2 c2)) rfl); clear hs5 hb5 a1 x0)
    | (refine Blk.load rfl 64 (.tmp 4) rfl _ _ _ _ rfl I8.out.xb Try.underlying64 rfl (by kernel_rfl) ?_)
    | (refine wpList_store_row rfl 64 (.tmp 6) (.tmp 52) rfl (w.heap.size + 3) _ _ _ rfl rfl I8.out.rb (by rfl) (by kernel_rfl) (row_one _ _ _ _ _ _ _) ?_; intro w9 hb9 hg9; have B9 := Lib.hid hb9; have E9 := Lib.hid (I8.out.bel.trans (Only.below hg9 (by omega) I8.out.bel.size)); clear hb9 hg9))
  refine bodyPost_ret (results_row_tmp2 rfl _ _ (w.heap.size + 3) _ _ _ rfl B9.out Try.underlying64 rfl (by kernel_rfl)) rfl ?_
  rw [HQ.out]
  exact ⟨_, _, rfl, ⟨_, _, _, _, _, _, rfl, rfl, slice_keep HS.out E9.out, slice_keep HH.out E9.out⟩, E9.out, .inl rfl, .inl rfl⟩
theorem ref17_Do_trim (c : Cfg) (x : Ld) (a : NAct) (A : Option Addr) (n cp : Nat) (A2 : Option Addr) (n2 c2 : Nat) (w : World) (hs : SmpsAre w A n cp x.smps) (hh : AdvsAre w A2 n2 c2 x.past) (hc : c.okC) (k : Nat) (hx : LdOk c x k) (hk : k ≤ 100) (ha : a.kind = 1) (he : (froms x.smps a.tick).length ≠ x.smps.length) :
    Calls Try.prog 33 #[.agg c.row, .agg (x.row (.slice A n cp) (.slice A2 n2 c2)), .agg a.row] w (DoS c x a (.slice A n cp) (.slice A2 n2 c2) w) := by
  have HS := Lib.hid hs
  have HH := Lib.hid hh
  have X0 := Lib.hid (DoI.pre w c x (.slice A n cp) (.slice A2 n2 c2) a)
  have I0 := Lib.hid (DoI.start w c x (.slice A n cp) (.slice A2 n2 c2) a)
  have hn : n ≤ 256 := by rw [← hs.1]; have := hx.slen; have := hc.2.2.1; omega
  have hn2 : n2 ≤ 64 := by rw [← hh.1]; have := hx.plen; have := hc.2.2.2.2.2.2; omega
  have hnl : x.smps.length = n := hs.1
  have HNL := Lib.hid hnl
  have v0 := hx.v0
  have v1 : x.ver ≤ 100 := by have := hx.v1; omega
  have hy : ndo c x a = ⟨froms x.smps a.tick, x.past, x.pol, x.ruled, x.ver + 1⟩ := by unfold ndo; rw [if_neg (by omega), if_pos ha]; exact if_neg he
  have hE : nerr a = 0 := by unfold nerr; rw [if_neg (by omega), if_neg (by omega)]
  have HQ := Lib.hid (DoS.eq (s0 := .slice A n cp) (h0 := .slice A2 n2 c2) (w := w) hy hE)
  have HFl := Lib.hid (show (froms x.smps a.tick).length ≤ x.smps.length from List.length_filter_le _ _)
  have HT := Lib.hid (fun W hW => ref08_Trim A n cp x.smps a.tick W hW (by omega))
  obtain ⟨kind, tick, value, pol, adv⟩ := a
  obtain rfl : kind = 1 := ha
  simp only at HT HQ he
  have HE := Lib.hid he
  simp only at HFl
  generalize froms x.smps tick = Q at *
  clear hs hh hx hc he hy hE hnl
  go_enter Try.func33, Try.ntmps33
  focus (go_upto_region 21 with (first
    | (refine Blk.load rfl 64 (.tmp 4) (by with_reducible rfl) _ _ _ _ rfl X0.out Try.underlying64 rfl (by kernel_rfl) ?_)
    | (refine wpList_store_row rfl 64 (.tmp 9) (.tmp 11) rfl (w.heap.size + 4) _ _ _ rfl rfl I0.out.ob (by rfl) (by kernel_rfl) (row_one _ _ _ _ _ _ _) ?_; intro w5 hb5 hg5; have I5 := Lib.hid (I0.out.store hb5 hg5); have a0 := I5.out.ab.cellv (i := 0) (v := .int .i64 1) rfl; have a1 := I5.out.ab.cellv (i := 1) (v := .int .i64 tick) rfl; have x0 := I5.out.xb.cellv (i := 0) (v := .slice A n cp) rfl; clear hb5 hg5)
    | (go_at_call 70; refine (HT.out _ (slice_keep HS.out I5.out.bel)).mono ?_; rintro e w7 ⟨A5, n5, c5, rfl, ho5, hb5⟩; have hs5 := ho5.is smp_len; have HA5 := Lib.hid (fun (a : Addr) (ha : A5 = some a) => (show w.heap.size + 4 < a.block from Nat.lt_of_lt_of_le I5.out.ob.lt (World.ownsRow.lt ho5 a.block (by rw [ha]; rfl)).1)); clear ho5; have S5 := Lib.hid hs5; have I7 := Lib.hid (I5.out.call hb5); have o0 := I7.out.ob.cellv (i := 0) (v := .slice A n cp) rfl; have f0 := I7.out.ob.frozen 0; have o9 := I7.out.ob.cellv (i := 9) (v := .int .i64 x.ver) rfl; have f9 := I7.out.ob.frozen 9; have x9 := I7.out.xb.cellv (i := 9) (v := .int .i64 x.ver) rfl; have x07 := I7.out.xb.cellv (i := 0) (v := .slice A n cp) rfl; have d5 : ((n5 : Int) == (n : Int)) = false := (by have h1 := hs5.1; have h2 := HE.out; have h3 := HNL.out; simp; omega); clear hs5 hb5 a1 x0)))
  have hn5 : n5 ≤ 256 := by rw [← S5.out.1]; have := HFl.out; have := HNL.out; omega
  have HGN := Lib.hid (show ((x.smps.length : Int) - (Q.length : Int)) = (n : Int) - (n5 : Int) by have := HNL.out; have := S5.out.1; omega)
  clear o0 f0 o9 f9 x9 x07 d5
  have I6 := Lib.hid ((I7.out.set 0 (.slice A5 n5 c5) (o' := (⟨Q, x.past, x.pol, x.ruled, x.ver⟩ : Ld).row (.slice A5 n5 c5) (.slice A2 n2 c2)) rfl).set 9 (.int .i64 (x.ver + 1)) (o' := (⟨Q, x.past, x.pol, x.ruled, x.ver + 1⟩ : Ld).row (.slice A5 n5 c5) (.slice A2 n2 c2)) rfl)
  have S6 := Lib.hid (show SmpsAre ((w7.setCell ⟨w.heap.size + 4, 0, none⟩ (.slice A5 n5 c5)).setCell ⟨w.heap.size + 4, 9, none⟩ (.int .i64 (x.ver + 1))) A5 n5 c5 Q from slice_upd S5.out (((Upd.refl (fun k => k = w.heap.size + 4) w7).setCell (.inl rfl) _).setCell (.inl rfl) _) (fun a ha e => by have h1 := HA5.out a ha; have h2 : a.block = w.heap.size + 4 := e; omega))
  generalize (w7.setCell ⟨w.heap.size + 4, 0, none⟩ (.slice A5 n5 c5)).setCell ⟨w.heap.size + 4, 9, none⟩ (.int .i64 (x.ver + 1)) = w6 at *
  clear a0
  refine wp_region_any (by kernel_rfl) ?_; change wpAny _ _ _ _ _ _ _ (World.drew w6); refine any_of_anyG (late := fun _ => false) (S := fun wS => Upd (fun k => k = w.heap.size + 3) w6 wS) _ _ _ _ ?_
  have S0 := (Upd.refl (fun k => k = w.heap.size + 3) w6).drew
  refine anyG_takes (is := [0, 1, 2, 3, 4]) (vs := [_, _, .slice A n cp, .int .i64 n, _]) (m := 6) (listed2 := #[true, true, true, true, true, false, false, false, false, false, false]) (a2 := ⟨#[_, _, _, _, _, _, _, _, _, _, _, _, _, _, _, _, _, _, _, _, _, _, _, _, _, _, _, _, _, _, _, _, _, _, _, _, _, _, _, _, _, _, _, _, _, _, _, _, _, _, _, _, _, _, _, _, _, _, _, _, _, _, _, _, _, _, _, _, _, _, _, _, _, _, _, _, _, _, _, _, _, _, _, _, _, _], _⟩) (by kernel_rfl) (fun j hj => by simp at hj) (by kernel_rfl) (fun _ _ _ _ _ h => h) (Ys.cons rfl (Or.inl ⟨by rfl, fun W1 hW1 => exec_load (ty := 64) (x := .tmp 9) rfl rfl (run_loadAt_blk _ _ _ _ _ _ (I6.out.ob.upd hW1 (by show ¬ w.heap.size + 4 = w.heap.size + 3; omega)) Try.underlying64 rfl (by first | kernel_rfl | exact info_num _))⟩) (Ys.cons rfl (Or.inl ⟨by rfl, fun W1 hW1 => by first | rfl | (go_simp; done) | (go_simp; with_reducible rfl)⟩) (Ys.cons rfl (Or.inl ⟨by rfl, fun W1 hW1 => by have c := (I6.out.xb.upd hW1 (by show ¬ w.heap.size + 1 = w.heap.size + 3; omega)).cellv (i := 0) (v := .slice A n cp) rfl; go_simp⟩) (Ys.cons rfl (Or.inl ⟨by rfl, fun W1 hW1 => by first | rfl | (go_simp; done)⟩) (Ys.cons rfl (Or.inl ⟨by rfl, fun W1 hW1 => by first | rfl | (go_simp; done) | (go_simp; with_reducible rfl)⟩) (Ys.nil)))))) (S0) (by rfl) (by rfl) ?_
  refine anyG_takes (is := [5, 6, 7]) (vs := [.slice A5 n5 c5, .int .i64 n5, .int .i64 ((n : Int) - (n5 : Int))]) (m := 3) (listed2 := #[true, true, true, true, true, true, true, true, false, false, false]) (a2 := ⟨#[_, _, _, _, _, _, _, _, _, _, _, _, _, _, _, _, _, _, _, _, _, _, _, _, _, _, _, _, _, _, _, _, _, _, _, _, _, _, _, _, _, _, _, _, _, _, _, _, _, _, _, _, _, _, _, _, _, _, _, _, _, _, _, _, _, _, _, _, _, _, _, _, _, _, _, _, _, _, _, _, _, _, _, _, _, _], _⟩) (by kernel_rfl) (fun j hj => by simp at hj) (by kernel_rfl) (fun _ _ _ _ _ h => h) (Ys.cons rfl (Or.inl ⟨by rfl, fun W1 hW1 => by have c := (I6.out.ob.upd hW1 (by show ¬ w.heap.size + 4 = w.heap.size + 3; omega)).cellv (i := 0) (v := .slice A5 n5 c5) rfl; go_simp⟩) (Ys.cons rfl (Or.inl ⟨by rfl, fun W1 hW1 => by first | rfl | (go_simp; done)⟩) (Ys.cons rfl (Or.inl ⟨by rfl, fun W1 hW1 => by first | (go_simp; done) | (go_simp; exact IntWalk.i64_in _ (by omega))⟩) (Ys.nil)))) (S0) (by rfl) (by rfl) ?_
  refine anyG_one (k := 8) (by kernel_rfl) rfl (by rfl) (fun Q2 hQ2 => ?_); go_wp2_with (refine wpList_store_row rfl 64 (.tmp 6) (.tmp 78) rfl (w.heap.size + 3) _ _ _ rfl rfl I6.out.rb.drew (by rfl) (by kernel_rfl) (row_one _ _ _ _ _ _ _) ?_; intro w9 hb9 hg9); refine hQ2 _ _ (fun _ => (S0).grown hg9 (fun k e => by injection e with e; exact .inl e.symm)) ?_; clear hQ2 Q2
  have S9 := (S0).grown hg9 (fun k e => by injection e with e; exact .inl e.symm)
  refine anyG_takes (is := [9, 10]) (vs := [.int .i64 0, .int .i64 ((n : Int) - (n5 : Int))]) (m := 0) (listed2 := #[true, true, true, true, true, true, true, true, true, true, true]) (a2 := ⟨#[_, _, _, _, _, _, _, _, _, _, _, _, _, _, _, _, _, _, _, _, _, _, _, _, _, _, _, _, _, _, _, _, _, _, _, _, _, _, _, _, _, _, _, _, _, _, _, _, _, _, _, _, _, _, _, _, _, _, _, _, _, _, _, _, _, _, _, _, _, _, _, _, _, _, _, _, _, _, _, _, _, _, _, _, _, _], _⟩) (by kernel_rfl) (fun j hj => by simp at hj) (by kernel_rfl) (fun _ _ _ _ _ h => h) (Ys.cons rfl (Or.inl ⟨by rfl, fun W1 hW1 => by rfl⟩) (Ys.cons rfl (Or.inl ⟨by rfl, fun W1 hW1 => by rfl⟩) (Ys.nil))) (S9) (by rfl) (by rfl) ?_
  refine anyG_done (by kernel_rfl) ?_ _
  have E9 := Lib.hid (I6.out.bel.trans (Upd.below (S9) (fun k hk => by omega) I6.out.bel.size))
  go_wp2
  refine bodyPost_ret (results_row_tmp2 rfl _ _ (w.heap.size + 3) _ _ _ rfl hb9 Try.underlying64 rfl (by kernel_rfl)) rfl ?_
  rw [HQ.out]
  exact ⟨_, _, (by rw [HGN.out]; rfl), ⟨_, _, _, _, _, _, rfl, rfl, slice_upd S6.out (S9) (fun a ha e => by have h1 := HA5.out a ha; have h2 : a.block = w.heap.size + 3 := e; omega), slice_keep HH.out E9.out⟩, E9.out, .inr (fun a n4 c4 e => by injection e with e1; have h1 := HA5.out a e1; omega), .inl rfl⟩
end Go.Proofs.Ytfeccjjheiillaa
/- flywheelref17.Do: a change is made. (fast region) -/
namespace Go.Proofs.Ytfeccjjheiillaa
open Go.RowKit
set_option linter.unusedSimpArgs false
set_option linter.unusedVariables false
set_option maxHeartbeats 4000000
set_option maxRecDepth 100000
theorem ref17_Do_set_no (c : Cfg) (x : Ld) (a : NAct) (A : Option Addr) (n cp : Nat) (A2 : Option Addr) (n2 c2 : Nat) (w : World) (hs : SmpsAre w A n cp x.smps) (hh : AdvsAre w A2 n2 c2 x.past) (hc : c.okC) (k : Nat) (hx : LdOk c x k) (hk : k ≤ 100) (ha : a.kind = 2) (he : ¬ a.pol.okP) :
    Calls Try.prog 33 #[.agg c.row, .agg (x.row (.slice A n cp) (.slice A2 n2 c2)), .agg a.row] w (DoS c x a (.slice A n cp) (.slice A2 n2 c2) w) := by
  have HS := Lib.hid hs
  have HH := Lib.hid hh
  have X0 := Lib.hid (DoI.pre w c x (.slice A n cp) (.slice A2 n2 c2) a)
  have I0 := Lib.hid (DoI.start w c x (.slice A n cp) (.slice A2 n2 c2) a)
  have hn : n ≤ 256 := by rw [← hs.1]; have := hx.slen; have := hc.2.2.1; omega
  have hn2 : n2 ≤ 64 := by rw [← hh.1]; have := hx.plen; have := hc.2.2.2.2.2.2; omega
  have hnl : x.smps.length = n := hs.1
  have HNL := Lib.hid hnl
  have v0 := hx.v0
  have v1 : x.ver ≤ 100 := by have := hx.v1; omega
  have hy : ndo c x a = x := by unfold ndo; rw [if_neg (by omega), if_neg (by omega), if_pos ha]; exact if_neg he
  have hE : nerr a = 7 := by unfold nerr; rw [if_neg (by omega), if_pos ha, polErr_no he]
  have HQ := Lib.hid (DoS.eq (s0 := .slice A n cp) (h0 := .slice A2 n2 c2) (w := w) hy hE)
  have HZ := Lib.hid (show (x.smps.length : Int) - (x.smps.length : Int) = 0 by omega)
  rw [HZ.out] at HQ
  have HC := Lib.hid (fun W => ref_Right a.pol W)
  rw [polOk_false he] at HC
  obtain ⟨kind, tick, value, pol, adv⟩ := a
  obtain rfl : kind = 2 := ha
  simp only at HC HQ
  clear hs hh hx hc he hy hE hnl
  go_enter Try.func33, Try.ntmps33
  go_wp2_with (first
    | (refine Blk.load rfl 64 (.tmp 4) (by with_reducible rfl) _ _ _ _ rfl X0.out Try.underlying64 rfl (by kernel_rfl) ?_)
    | (refine wpList_store_row rfl 64 (.tmp 9) (.tmp 11) rfl (w.heap.size + 4) _ _ _ rfl rfl I0.out.ob (by rfl) (by kernel_rfl) (row_one _ _ _ _ _ _ _) ?_; intro w5 hb5 hg5; have I5 := Lib.hid (I0.out.store hb5 hg5); have a0 := I5.out.ab.cellv (i := 0) (v := .int .i64 2) rfl; have a3 := I5.out.ab.cellv (i := 3) (v := .int .i64 pol.min) rfl; have a4 := I5.out.ab.cellv (i := 4) (v := .int .i64 pol.max) rfl; have a5 := I5.out.ab.cellv (i := 5) (v := .int .i64 pol.target) rfl; have a6 := I5.out.ab.cellv (i := 6) (v := .int .i64 pol.tol) rfl; have a7 := I5.out.ab.cellv (i := 7) (v := .int .i64 pol.window) rfl; have a8 := I5.out.ab.cellv (i := 8) (v := .int .i64 pol.hold) rfl; clear hb5 hg5)
    | (go_at_call 71; refine (HC.out _).mono ?_; rintro e w6 ⟨rfl, hb6⟩; have I6 := Lib.hid (I5.out.call hb6); clear hb6)
    | (refine Blk.load rfl 64 (.tmp 4) rfl _ _ _ _ rfl I6.out.xb Try.underlying64 rfl (by kernel_rfl) ?_)
    | (refine wpList_store_row rfl 64 (.tmp 6) (.tmp 59) rfl (w.heap.size + 3) _ _ _ rfl rfl I6.out.rb (by rfl) (by kernel_rfl) (row_one _ _ _ _ _ _ _) ?_; intro w9 hb9 hg9; have B9 := Lib.hid hb9; have E9 := Lib.hid (I6.out.bel.trans (Only.below hg9 (by omega) I6.out.bel.size)); clear hb9 hg9))
  refine bodyPost_ret (results_row_tmp2 rfl _ _ (w.heap.size + 3) _ _ _ rfl B9.out Try.underlying64 rfl (by kernel_rfl)) rfl ?_
  rw [HQ.out]
  exact ⟨_, _, rfl, ⟨_, _, _, _, _, _, rfl, rfl, slice_keep HS.out E9.out, slice_keep HH.out E9.out⟩, E9.out, .inl rfl, .inl rfl⟩
theorem ref17_Do_set (c : Cfg) (x : Ld) (a : NAct) (A : Option Addr) (n cp : Nat) (A2 : Option Addr) (n2 c2 : Nat) (w : World) (hs : SmpsAre w A n cp x.smps) (hh : AdvsAre w A2 n2 c2 x.past) (hc : c.okC) (k : Nat) (hx : LdOk c x k) (hk : k ≤ 100) (ha : a.kind = 2) (he : a.pol.okP) :
    Calls Try.prog 33 #[.agg c.row, .agg (x.row (.slice A n cp) (.slice A2 n2 c2)), .agg a.row] w (DoS c x a (.slice A n cp) (.slice A2 n2 c2) w) := by
  have HS := Lib.hid hs
  have HH := Lib.hid hh
  have X0 := Lib.hid (DoI.pre w c x (.slice A n cp) (.slice A2 n2 c2) a)
  have I0 := Lib.hid (DoI.start w c x (.slice A n cp) (.slice A2 n2 c2) a)
  have hn : n ≤ 256 := by rw [← hs.1]; have := hx.slen; have := hc.2.2.1; omega
  have hn2 : n2 ≤ 64 := by rw [← hh.1]; have := hx.plen; have := hc.2.2.2.2.2.2; omega
  have hnl : x.smps.length = n := hs.1
  have HNL := Lib.hid hnl
  have v0 := hx.v0
  have v1 : x.ver ≤ 100 := by have := hx.v1; omega
  have hy : ndo c x a = ⟨x.smps, x.past, a.pol, true, x.ver + 1⟩ := by unfold ndo; rw [if_neg (by omega), if_neg (by omega), if_pos ha]; exact if_pos he
  have hE : nerr a = 0 := by unfold nerr; rw [if_neg (by omega), if_pos ha, polErr_ok he]
  have HQ := Lib.hid (DoS.eq (s0 := .slice A n cp) (h0 := .slice A2 n2 c2) (w := w) hy hE)
  have HC := Lib.hid (fun W => ref_Right a.pol W)
  rw [polOk_true he] at HC
  obtain ⟨kind, tick, value, pol, adv⟩ := a
  obtain rfl : kind = 2 := ha
  simp only at HC HQ
  clear hs hh hx hc he hy hE hnl
  go_enter Try.func33, Try.ntmps33
  focus (go_upto_region 21 with (first
    | (refine Blk.load rfl 64 (.tmp 4) (by with_reducible rfl) _ _ _ _ rfl X0.out Try.underlying64 rfl (by kernel_rfl) ?_)
    | (refine wpList_store_row rfl 64 (.tmp 9) (.tmp 11) rfl (w.heap.size + 4) _ _ _ rfl rfl I0.out.ob (by rfl) (by kernel_rfl) (row_one _ _ _ _ _ _ _) ?_; intro w5 hb5 hg5; have I5 := Lib.hid (I0.out.store hb5 hg5); have a0 := I5.out.ab.cellv (i := 0) (v := .int .i64 2) rfl; have a3 := I5.out.ab.cellv (i := 3) (v := .int .i64 pol.min) rfl; have a4 := I5.out.ab.cellv (i := 4) (v := .int .i64 pol.max) rfl; have a5 := I5.out.ab.cellv (i := 5) (v := .int .i64 pol.target) rfl; have a6 := I5.out.ab.cellv (i := 6) (v := .int .i64 pol.tol) rfl; have a7 := I5.out.ab.cellv (i := 7) (v := .int .i64 pol.window) rfl; have a8 := I5.out.ab.cellv (i := 8) (v := .int .i64 pol.hold) rfl; clear hb5 hg5)
    | (go_at_call 71; refine (HC.out _).mono ?_; rintro e w7 ⟨rfl, hb6⟩; have I7 := Lib.hid (I5.out.call hb6); have b3 := I7.out.ab.cellv (i := 3) (v := .int .i64 pol.min) rfl; have b4 := I7.out.ab.cellv (i := 4) (v := .int .i64 pol.max) rfl; have b5 := I7.out.ab.cellv (i := 5) (v := .int .i64 pol.target) rfl; have b6 := I7.out.ab.cellv (i := 6) (v := .int .i64 pol.tol) rfl; have b7 := I7.out.ab.cellv (i := 7) (v := .int .i64 pol.window) rfl; have b8 := I7.out.ab.cellv (i := 8) (v := .int .i64 pol.hold) rfl; clear hb6 a3 a4 a5 a6 a7 a8)
    | (refine wpList_store_part rfl 62 (.tmp 62) (.tmp 61) rfl (w.heap.size + 4) 2 _ _ pol.row rfl rfl I7.out.ob (by simp) (by kernel_rfl) (by simp [Value.oneCell']) ?_; intro w8 hb8 hg8; have I8 := Lib.hid (I7.out.store hb8 hg8); have o8 := I8.out.ob.cellv (i := 8) (v := .bool x.ruled) rfl; have f8 := I8.out.ob.frozen 8; have o9 := I8.out.ob.cellv (i := 9) (v := .int .i64 x.ver) rfl; have f9 := I8.out.ob.frozen 9; have x9 := I8.out.xb.cellv (i := 9) (v := .int .i64 x.ver) rfl; clear hb8 hg8 b3 b4 b5 b6 b7 b8)))
  have HGN := Lib.hid (show ((x.smps.length : Int) - (x.smps.length : Int)) = 0 by omega)
  clear o8 f8 o9 f9 x9
  have I6 := Lib.hid ((I8.out.set 8 (.bool true) rfl).set 9 (.int .i64 (x.ver + 1)) (o' := (⟨x.smps, x.past, pol, true, x.ver + 1⟩ : Ld).row (.slice A n cp) (.slice A2 n2 c2)) rfl)
  generalize (w8.setCell ⟨w.heap.size + 4, 8, none⟩ (.bool true)).setCell ⟨w.heap.size + 4, 9, none⟩ (.int .i64 (x.ver + 1)) = w6 at *
  clear a0
  refine wp_region_any (by kernel_rfl) ?_; change wpAny _ _ _ _ _ _ _ (World.drew w6); refine any_of_anyG (late := fun _ => false) (S := fun wS => Upd (fun k => k = w.heap.size + 3) w6 wS) _ _ _ _ ?_
  have S0 := (Upd.refl (fun k => k = w.heap.size + 3) w6).drew
  refine anyG_takes (is := [0, 1, 2, 3, 4]) (vs := [_, _, .slice A n cp, .int .i64 n, _]) (m := 6) (listed2 := #[true, true, true, true, true, false, false, false, false, false, false]) (a2 := ⟨#[_, _, _, _, _, _, _, _, _, _, _, _, _, _, _, _, _, _, _, _, _, _, _, _, _, _, _, _, _, _, _, _, _, _, _, _, _, _, _, _, _, _, _, _, _, _, _, _, _, _, _, _, _, _, _, _, _, _, _, _, _, _, _, _, _, _, _, _, _, _, _, _, _, _, _, _, _, _, _, _, _, _, _, _, _, _], _⟩) (by kernel_rfl) (fun j hj => by simp at hj) (by kernel_rfl) (fun _ _ _ _ _ h => h) (Ys.cons rfl (Or.inl ⟨by rfl, fun W1 hW1 => exec_load (ty := 64) (x := .tmp 9) rfl rfl (run_loadAt_blk _ _ _ _ _ _ (I6.out.ob.upd hW1 (by show ¬ w.heap.size + 4 = w.heap.size + 3; omega)) Try.underlying64 rfl (by first | kernel_rfl | exact info_num _))⟩) (Ys.cons rfl (Or.inl ⟨by rfl, fun W1 hW1 => by first | rfl | (go_simp; done) | (go_simp; with_reducible rfl)⟩) (Ys.cons rfl (Or.inl ⟨by rfl, fun W1 hW1 => by have c := (I6.out.xb.upd hW1 (by show ¬ w.heap.size + 1 = w.heap.size + 3; omega)).cellv (i := 0) (v := .slice A n cp) rfl; go_simp⟩) (Ys.cons rfl (Or.inl ⟨by rfl, fun W1 hW1 => by first | rfl | (go_simp; done)⟩) (Ys.cons rfl (Or.inl ⟨by rfl, fun W1 hW1 => by first | rfl | (go_simp; done) | (go_simp; with_reducible rfl)⟩) (Ys.nil)))))) (S0) (by rfl) (by rfl) ?_
  refine anyG_takes (is := [5, 6, 7]) (vs := [.slice A n cp, .int .i64 n, .int .i64 (0)]) (m := 3) (listed2 := #[true, true, true, true, true, true, true, true, false, false, false]) (a2 := ⟨#[_, _, _, _, _, _, _, _, _, _, _, _, _, _, _, _, _, _, _, _, _, _, _, _, _, _, _, _, _, _, _, _, _, _, _, _, _, _, _, _, _, _, _, _, _, _, _, _, _, _, _, _, _, _, _, _, _, _, _, _, _, _, _, _, _, _, _, _, _, _, _, _, _, _, _, _, _, _, _, _, _, _, _, _, _, _], _⟩) (by kernel_rfl) (fun j hj => by simp at hj) (by kernel_rfl) (fun _ _ _ _ _ h => h) (Ys.cons rfl (Or.inl ⟨by rfl, fun W1 hW1 => by have c := (I6.out.ob.upd hW1 (by show ¬ w.heap.size + 4 = w.heap.size + 3; omega)).cellv (i := 0) (v := .slice A n cp) rfl; go_simp⟩) (Ys.cons rfl (Or.inl ⟨by rfl, fun W1 hW1 => by first | rfl | (go_simp; done)⟩) (Ys.cons rfl (Or.inl ⟨by rfl, fun W1 hW1 => by first | (go_simp; done) | (go_simp; exact IntWalk.i64_in _ (by omega))⟩) (Ys.nil)))) (S0) (by rfl) (by rfl) ?_
  refine anyG_one (k := 8) (by kernel_rfl) rfl (by rfl) (fun Q2 hQ2 => ?_); go_wp2_with (refine wpList_store_row rfl 64 (.tmp 6) (.tmp 78) rfl (w.heap.size + 3) _ _ _ rfl rfl I6.out.rb.drew (by rfl) (by kernel_rfl) (row_one _ _ _ _ _ _ _) ?_; intro w9 hb9 hg9); refine hQ2 _ _ (fun _ => (S0).grown hg9 (fun k e => by injection e with e; exact .inl e.symm)) ?_; clear hQ2 Q2
  have S9 := (S0).grown hg9 (fun k e => by injection e with e; exact .inl e.symm)
  refine anyG_takes (is := [9, 10]) (vs := [.int .i64 0, .int .i64 (0)]) (m := 0) (listed2 := #[true, true, true, true, true, true, true, true, true, true, true]) (a2 := ⟨#[_, _, _, _, _, _, _, _, _, _, _, _, _, _, _, _, _, _, _, _, _, _, _, _, _, _, _, _, _, _, _, _, _, _, _, _, _, _, _, _, _, _, _, _, _, _, _, _, _, _, _, _, _, _, _, _, _, _, _, _, _, _, _, _, _, _, _, _, _, _, _, _, _, _, _, _, _, _, _, _, _, _, _, _, _, _], _⟩) (by kernel_rfl) (fun j hj => by simp at hj) (by kernel_rfl) (fun _ _ _ _ _ h => h) (Ys.cons rfl (Or.inl ⟨by rfl, fun W1 hW1 => by rfl⟩) (Ys.cons rfl (Or.inl ⟨by rfl, fun W1 hW1 => by rfl⟩) (Ys.nil))) (S9) (by rfl) (by rfl) ?_
  refine anyG_done (by kernel_rfl) ?_ _
  have E9 := Lib.hid (I6.out.bel.trans (Upd.below (S9) (fun k hk => by omega) I6.out.bel.size))
  go_wp2
  refine bodyPost_ret (results_row_tmp2 rfl _ _ (w.heap.size + 3) _ _ _ rfl hb9 Try.underlying64 rfl (by kernel_rfl)) rfl ?_
  rw [HQ.out]
  exact ⟨_, _, (by rw [HGN.out]; rfl), ⟨_, _, _, _, _, _, rfl, rfl, slice_keep HS.out E9.out, slice_keep HH.out E9.out⟩, E9.out, .inl rfl, .inl rfl⟩
theorem ref17_Do_note (c : Cfg) (x : Ld) (a : NAct) (A : Option Addr) (n cp : Nat) (A2 : Option Addr) (n2 c2 : Nat) (w : World) (hs : SmpsAre w A n cp x.smps) (hh : AdvsAre w A2 n2 c2 x.past) (hc : c.okC) (k : Nat) (hx : LdOk c x k) (hk : k ≤ 100) (ha : a.kind = 3) :
    Calls Try.prog 33 #[.agg c.row, .agg (x.row (.slice A n cp) (.slice A2 n2 c2)), .agg a.row] w (DoS c x a (.slice A n cp) (.slice A2 n2 c2) w) := by
  have HS := Lib.hid hs
  have HH := Lib.hid hh
  have X0 := Lib.hid (DoI.pre w c x (.slice A n cp) (.slice A2 n2 c2) a)
  have I0 := Lib.hid (DoI.start w c x (.slice A n cp) (.slice A2 n2 c2) a)
  have hn : n ≤ 256 := by rw [← hs.1]; have := hx.slen; have := hc.2.2.1; omega
  have hn2 : n2 ≤ 64 := by rw [← hh.1]; have := hx.plen; have := hc.2.2.2.2.2.2; omega
  have hnl : x.smps.length = n := hs.1
  have HNL := Lib.hid hnl
  have v0 := hx.v0
  have v1 : x.ver ≤ 100 := by have := hx.v1; omega
  have hy : ndo c x a = ⟨x.smps, pushq x.past c.his.toNat a.adv, x.pol, x.ruled, x.ver + 1⟩ := by unfold ndo; rw [if_neg (by omega), if_neg (by omega), if_neg (by omega), if_pos ha]; rfl
  have hE : nerr a = 0 := by unfold nerr; rw [if_neg (by omega), if_neg (by omega)]
  have HQ := Lib.hid (DoS.eq (s0 := .slice A n cp) (h0 := .slice A2 n2 c2) (w := w) hy hE)
  obtain ⟨rm, hrm⟩ : ∃ rm : Nat, c.his = rm := ⟨c.his.toNat, by have := hc.2.2.2.2.2.1; omega⟩
  have hrm2 : rm ≤ 64 := by have := hc.2.2.2.2.2.2; omega
  have HP := Lib.hid (fun W hW => ref14_Put A2 n2 c2 x.past rm a.adv W hW (by omega) (by omega))
  rw [show c.his.toNat = rm by omega] at HQ
  obtain ⟨kind, tick, value, pol, adv⟩ := a
  obtain rfl : kind = 3 := ha
  obtain ⟨cs, csm, cl, ch⟩ := c
  obtain rfl : ch = rm := hrm
  simp only at HP HQ
  generalize pushq x.past rm adv = Q at *
  clear hs hh hx hc hy hE hnl
  go_enter Try.func33, Try.ntmps33
  focus (go_upto_region 21 with (first
    | (refine Blk.load rfl 64 (.tmp 4) (by with_reducible rfl) _ _ _ _ rfl X0.out Try.underlying64 rfl (by kernel_rfl) ?_)
    | (refine wpList_store_row rfl 64 (.tmp 9) (.tmp 11) rfl (w.heap.size + 4) _ _ _ rfl rfl I0.out.ob (by rfl) (by kernel_rfl) (row_one _ _ _ _ _ _ _) ?_; intro w5 hb5 hg5; have I5 := Lib.hid (I0.out.store hb5 hg5); have a0 := I5.out.ab.cellv (i := 0) (v := .int .i64 3) rfl; have a9 := I5.out.ab.cellv (i := 9) (v := .int .i64 adv.tick) rfl; have a10 := I5.out.ab.cellv (i := 10) (v := .int .i64 adv.load) rfl; have a11 := I5.out.ab.cellv (i := 11) (v := .int .i64 adv.want) rfl; have a12 := I5.out.ab.cellv (i := 12) (v := .int .i64 adv.repl) rfl; have a13 := I5.out.ab.cellv (i := 13) (v := .int .i64 adv.why) rfl; have x1 := I5.out.xb.cellv (i := 1) (v := .slice A2 n2 c2) rfl; have c3 := I5.out.cb.cellv (i := 3) (v := .int .i64 rm) rfl; clear hb5 hg5)
    | (go_at_call 72; refine (HP.out _ (slice_keep HH.out I5.out.bel)).mono ?_; rintro e w7 ⟨A5, n5, c5, rfl, hs5, hb5, hab⟩; have HA5 := Lib.hid (fun a ha => Nat.lt_of_lt_of_le I5.out.ob.lt (hab a ha).1); clear hab; have S5 := Lib.hid hs5; have I7 := Lib.hid (I5.out.call hb5); have o1 := I7.out.ob.cellv (i := 1) (v := .slice A2 n2 c2) rfl; have f1 := I7.out.ob.frozen 1; have o9 := I7.out.ob.cellv (i := 9) (v := .int .i64 x.ver) rfl; have f9 := I7.out.ob.frozen 9; have x9 := I7.out.xb.cellv (i := 9) (v := .int .i64 x.ver) rfl; clear hs5 hb5 a9 a10 a11 a12 a13 x1 c3)))
  have HGN := Lib.hid (show ((x.smps.length : Int) - (x.smps.length : Int)) = 0 by omega)
  clear o1 f1 o9 f9 x9
  have I6 := Lib.hid ((I7.out.set 1 (.slice A5 n5 c5) (o' := (⟨x.smps, Q, x.pol, x.ruled, x.ver⟩ : Ld).row (.slice A n cp) (.slice A5 n5 c5)) rfl).set 9 (.int .i64 (x.ver + 1)) (o' := (⟨x.smps, Q, x.pol, x.ruled, x.ver + 1⟩ : Ld).row (.slice A n cp) (.slice A5 n5 c5)) rfl)
  have S6 := Lib.hid (show AdvsAre ((w7.setCell ⟨w.heap.size + 4, 1, none⟩ (.slice A5 n5 c5)).setCell ⟨w.heap.size + 4, 9, none⟩ (.int .i64 (x.ver + 1))) A5 n5 c5 Q from slice_upd S5.out (((Upd.refl (fun k => k = w.heap.size + 4) w7).setCell (.inl rfl) _).setCell (.inl rfl) _) (fun a ha e => by have h1 := HA5.out a ha; have h2 : a.block = w.heap.size + 4 := e; omega))
  generalize (w7.setCell ⟨w.heap.size + 4, 1, none⟩ (.slice A5 n5 c5)).setCell ⟨w.heap.size + 4, 9, none⟩ (.int .i64 (x.ver + 1)) = w6 at *
  clear a0
  refine wp_region_any (by kernel_rfl) ?_; change wpAny _ _ _ _ _ _ _ (World.drew w6); refine any_of_anyG (late := fun _ => false) (S := fun wS => Upd (fun k => k = w.heap.size + 3) w6 wS) _ _ _ _ ?_
  have S0 := (Upd.refl (fun k => k = w.heap.size + 3) w6).drew
  refine anyG_takes (is := [0, 1, 2, 3, 4]) (vs := [_, _, .slice A n cp, .int .i64 n, _]) (m := 6) (listed2 := #[true, true, true, true, true, false, false, false, false, false, false]) (a2 := ⟨#[_, _, _, _, _, _, _, _, _, _, _, _, _, _, _, _, _, _, _, _, _, _, _, _, _, _, _, _, _, _, _, _, _, _, _, _, _, _, _, _, _, _, _, _, _, _, _, _, _, _, _, _, _, _, _, _, _, _, _, _, _, _, _, _, _, _, _, _, _, _, _, _, _, _, _, _, _, _, _, _, _, _, _, _, _, _], _⟩) (by kernel_rfl) (fun j hj => by simp at hj) (by kernel_rfl) (fun _ _ _ _ _ h => h) (Ys.cons rfl (Or.inl ⟨by rfl, fun W1 hW1 => exec_load (ty := 64) (x := .tmp 9) rfl rfl (run_loadAt_blk _ _ _ _ _ _ (I6.out.ob.upd hW1 (by show ¬ w.heap.size + 4 = w.heap.size + 3; omega)) Try.underlying64 rfl (by first | kernel_rfl | exact info_num _))⟩) (Ys.cons rfl (Or.inl ⟨by rfl, fun W1 hW1 => by first | rfl | (go_simp; done) | (go_simp; with_reducible rfl)⟩) (Ys.cons rfl (Or.inl ⟨by rfl, fun W1 hW1 => by have c := (I6.out.xb.upd hW1 (by show ¬ w.heap.size + 1 = w.heap.size + 3; omega)).cellv (i := 0) (v := .slice A n cp) rfl; go_simp⟩) (Ys.cons rfl (Or.inl ⟨by rfl, fun W1 hW1 => by first | rfl | (go_simp; done)⟩) (Ys.cons rfl (Or.inl ⟨by rfl, fun W1 hW1 => by first | rfl | (go_simp; done) | (go_simp; with_reducible rfl)⟩) (Ys.nil)))))) (S0) (by rfl) (by rfl) ?_
  refine anyG_takes (is := [5, 6, 7]) (vs := [.slice A n cp, .int .i64 n, .int .i64 (0)]) (m := 3) (listed2 := #[true, true, true, true, true, true, true, true, false, false, false]) (a2 := ⟨#[_, _, _, _, _, _, _, _, _, _, _, _, _, _, _, _, _, _, _, _, _, _, _, _, _, _, _, _, _, _, _, _, _, _, _, _, _, _, _, _, _, _, _, _, _, _, _, _, _, _, _, _, _, _, _, _, _, _, _, _, _, _, _, _, _, _, _, _, _, _, _, _, _, _, _, _, _, _, _, _, _, _, _, _, _, _], _⟩) (by kernel_rfl) (fun j hj => by simp at hj) (by kernel_rfl) (fun _ _ _ _ _ h => h) (Ys.cons rfl (Or.inl ⟨by rfl, fun W1 hW1 => by have c := (I6.out.ob.upd hW1 (by show ¬ w.heap.size + 4 = w.heap.size + 3; omega)).cellv (i := 0) (v := .slice A n cp) rfl; go_simp⟩) (Ys.cons rfl (Or.inl ⟨by rfl, fun W1 hW1 => by first | rfl | (go_simp; done)⟩) (Ys.cons rfl (Or.inl ⟨by rfl, fun W1 hW1 => by first | (go_simp; done) | (go_simp; exact IntWalk.i64_in _ (by omega))⟩) (Ys.nil)))) (S0) (by rfl) (by rfl) ?_
  refine anyG_one (k := 8) (by kernel_rfl) rfl (by rfl) (fun Q2 hQ2 => ?_); go_wp2_with (refine wpList_store_row rfl 64 (.tmp 6) (.tmp 78) rfl (w.heap.size + 3) _ _ _ rfl rfl I6.out.rb.drew (by rfl) (by kernel_rfl) (row_one _ _ _ _ _ _ _) ?_; intro w9 hb9 hg9); refine hQ2 _ _ (fun _ => (S0).grown hg9 (fun k e => by injection e with e; exact .inl e.symm)) ?_; clear hQ2 Q2
  have S9 := (S0).grown hg9 (fun k e => by injection e with e; exact .inl e.symm)
  refine anyG_takes (is := [9, 10]) (vs := [.int .i64 0, .int .i64 (0)]) (m := 0) (listed2 := #[true, true, true, true, true, true, true, true, true, true, true]) (a2 := ⟨#[_, _, _, _, _, _, _, _, _, _, _, _, _, _, _, _, _, _, _, _, _, _, _, _, _, _, _, _, _, _, _, _, _, _, _, _, _, _, _, _, _, _, _, _, _, _, _, _, _, _, _, _, _, _, _, _, _, _, _, _, _, _, _, _, _, _, _, _, _, _, _, _, _, _, _, _, _, _, _, _, _, _, _, _, _, _], _⟩) (by kernel_rfl) (fun j hj => by simp at hj) (by kernel_rfl) (fun _ _ _ _ _ h => h) (Ys.cons rfl (Or.inl ⟨by rfl, fun W1 hW1 => by rfl⟩) (Ys.cons rfl (Or.inl ⟨by rfl, fun W1 hW1 => by rfl⟩) (Ys.nil))) (S9) (by rfl) (by rfl) ?_
  refine anyG_done (by kernel_rfl) ?_ _
  have E9 := Lib.hid (I6.out.bel.trans (Upd.below (S9) (fun k hk => by omega) I6.out.bel.size))
  go_wp2
  refine bodyPost_ret (results_row_tmp2 rfl _ _ (w.heap.size + 3) _ _ _ rfl hb9 Try.underlying64 rfl (by kernel_rfl)) rfl ?_
  rw [HQ.out]
  exact ⟨_, _, (by rw [HGN.out]; rfl), ⟨_, _, _, _, _, _, rfl, rfl, slice_keep HS.out E9.out, slice_upd S6.out (S9) (fun a ha e => by have h1 := HA5.out a ha; have h2 : a.block = w.heap.size + 3 := e; omega)⟩, E9.out, .inl rfl, .inr (fun a n4 c4 e => by injection e with e1; have h1 := HA5.out a e1; omega)⟩
end Go.Proofs.Ytfeccjjheiillaa
