/- Several texts in one. -/
import Derived.Test.YtfeccjjheiillaaKNodePlays1
/- Chapter 17's law: NodeFreezes. (fast region) -/
namespace Go.Proofs.Ytfeccjjheiillaa
open Go.RowKit
set_option linter.unusedSimpArgs false
set_option linter.unusedVariables false
set_option maxHeartbeats 4000000
set_option maxRecDepth 100000
theorem PlI.step2 {w W W' W0 : World} {gx B : Nat} {c : Cfg} {x y : Ld} {s h : Value} {p p' : Option Addr} {F : Nat → Prop} {fr fr' : Bool} (i : PlI w W gx c x s h p F fr) (hB : Below B W0 W) (hd : fr = true ∨ ∀ k, F k → B ≤ k) (hr : NRes2 p F c x fr y fr' W p' W') (hBs : B ≤ W.heap.size) :
    ∃ F', PlM w W' gx c x y s h p' F' fr' ∧ Below B W0 W' ∧ (fr' = true ∨ ∀ k, F' k → B ≤ k) := by
  rcases hr with ⟨F', n1, s1, s2, s3⟩ | ⟨rfl, rfl, rfl, n1, b1⟩
  · have hl := i.ld.lt
    have hF : ∀ k, F' k → (F k ∨ k = gx) ∨ W.heap.size ≤ k := fun k hk => (s2 k hk).imp .inl id
    have hxl := i.xb.lt
    have key : ∀ k, (F' k ∨ k = gx) → (F k ∨ k = gx) ∨ W.heap.size ≤ k := fun k hk => hk.elim (hF k) (fun e => .inl (.inr e))
    refine ⟨F', ⟨i.cb.upd s1 (fun hf => by have := (i.fb _ hf).1; omega), i.xb.upd s1 (fun hf => (i.fb _ hf).2 rfl), i.ld.upd s1 (i.so.mono (fun k hk => .inl hk)) (i.ho.mono (fun k hk => .inl hk)), (i.so.or hl.1).mono key, (i.ho.or hl.2).mono key, n1, fun k hk => ?_, i.bel.trans (s1.below (fun k hk => by have := (i.fb k hk).1; omega) i.bel.size), i.gb⟩, ?_, .inr fun k hk => ?_⟩
    · rcases s2 k hk with hk | hk
      · exact i.fb k hk
      · have := i.cb.lt; exact ⟨by omega, by omega⟩
    · rcases hd with rfl | hd
      · exact hB.trans ((s3 rfl).1.mono hBs)
      · exact hB.trans (s1.below hd hBs)
    · rcases hd with rfl | hd
      · exact Nat.le_trans hBs ((s3 rfl).2 k hk)
      · exact (s2 k hk).elim (hd k) (Nat.le_trans hBs)
  · exact ⟨F, ⟨i.cb.call b1, i.xb.call b1, i.ld.call b1, i.so, i.ho, n1, i.fb, i.bel.trans (b1.mono i.bel.size), i.gb⟩, hB.trans (b1.mono hBs), hd⟩
theorem walk_NodeFreezes (c0 c1 c2 c3 : Int) (A : Option Addr) (len cap : Nat) (l : List NAct) (Az : Option Addr) (len2 cap2 : Nat) (l2 : List NAct) (w : World) (h0 : I64 c0) (h1 : I64 c1) (h2 : I64 c2) (h3 : I64 c3) (hs : NActsAre w A len cap l) (hg : ∀ x ∈ l, x.good) (hs2 : NActsAre w Az len2 cap2 l2) (hg2 : ∀ x ∈ l2, x.good) :
    Calls Try.prog 8 #[.agg #[.int .i64 c0, .int .i64 c1, .int .i64 c2, .int .i64 c3], .slice A len cap, .slice Az len2 cap2] w fun e w' => e = .returned (.bool true) ∧ Below w.heap.size w w' := by
  obtain ⟨c, rfl, rfl, rfl, rfl⟩ : ∃ c : Cfg, c0 = c.str ∧ c1 = c.smp ∧ c2 = c.lod ∧ c3 = c.his := ⟨⟨c0, c1, c2, c3⟩, rfl, rfl, rfl, rfl⟩
  have hf : c.fit := ⟨h0, h1, h2, h3⟩
  have HS := Lib.hid hs
  have HS2 := Lib.hid hs2
  have hle : len ≤ cap := hs.2.1
  have hm : cap ≤ 9223372036854775807 := by have := hs.2.2.1; unfold maxLen at this; omega
  have hle2 : len2 ≤ cap2 := hs2.2.1
  have hm2 : cap2 ≤ 9223372036854775807 := by have := hs2.2.2.1; unfold maxLen at this; omega
  have E0 := Lib.hid (show Below w.heap.size w (w.alloc (.cells c.row cfT)) by go_grown)
  have C0 := Lib.hid (Blk.new w cfT c.row)
  have HRt := Lib.hid (fun W => ref17_Right c W hf)
  clear h0 h1 h2 h3 hs hg hs2 hg2
  have hcase : (¬ c.okC) ∨ (c.okC ∧ 30 < len) ∨ (c.okC ∧ ¬ 30 < len ∧ 30 < len2) ∨ (c.okC ∧ len ≤ 30 ∧ len2 ≤ 30) := by
    by_cases h : c.okC
    · right
      by_cases h1 : 30 < len
      · exact .inl ⟨h, h1⟩
      · right
        by_cases h2 : 30 < len2
        · exact .inl ⟨h, h1, h2⟩
        · exact .inr ⟨h, by omega, by omega⟩
    · exact .inl h
  rcases hcase with hok | ⟨hok, hl⟩ | ⟨hok, hl, hl2⟩ | ⟨hok, hl, hl2⟩
  · rw [decide_eq_false hok] at HRt
    clear hok hf
    go_enter Try.func8, Try.ntmps8
    go_wp2_with (first
        | (go_at_call 28; refine (awake17 _).mono ?_; rintro e v1 ⟨rfl, hb1⟩; have E1 := Lib.hid (E0.out.trans (hb1.mono E0.out.size)); have C1 := Lib.hid (C0.out.call hb1); have q0 := C1.out.cellv (i := 0) (v := .int .i64 c.str) rfl; have q1 := C1.out.cellv (i := 1) (v := .int .i64 c.smp) rfl; have q2 := C1.out.cellv (i := 2) (v := .int .i64 c.lod) rfl; have q3 := C1.out.cellv (i := 3) (v := .int .i64 c.his) rfl; clear hb1)
        | (go_at_call 30; refine (HRt.out _).mono ?_; rintro e v2 ⟨rfl, hb2⟩; have E2 := Lib.hid (E1.out.trans (hb2.mono E1.out.size)); have C2 := Lib.hid (C1.out.call hb2); have r0 := C2.out.cellv (i := 0) (v := .int .i64 c.str) rfl; have r1 := C2.out.cellv (i := 1) (v := .int .i64 c.smp) rfl; have r2 := C2.out.cellv (i := 2) (v := .int .i64 c.lod) rfl; have r3 := C2.out.cellv (i := 3) (v := .int .i64 c.his) rfl; clear hb2 q0 q1 q2 q3))
    go_ret
    exact ⟨rfl, E2.out⟩
  · rw [decide_eq_true hok] at HRt
    have d0 : decide ((30 : Int) < (len : Int)) = true := by simp; omega
    clear hok hf hl
    go_enter Try.func8, Try.ntmps8
    go_wp2_with (first
        | (go_at_call 28; refine (awake17 _).mono ?_; rintro e v1 ⟨rfl, hb1⟩; have E1 := Lib.hid (E0.out.trans (hb1.mono E0.out.size)); have C1 := Lib.hid (C0.out.call hb1); have q0 := C1.out.cellv (i := 0) (v := .int .i64 c.str) rfl; have q1 := C1.out.cellv (i := 1) (v := .int .i64 c.smp) rfl; have q2 := C1.out.cellv (i := 2) (v := .int .i64 c.lod) rfl; have q3 := C1.out.cellv (i := 3) (v := .int .i64 c.his) rfl; clear hb1)
        | (go_at_call 30; refine (HRt.out _).mono ?_; rintro e v2 ⟨rfl, hb2⟩; have E2 := Lib.hid (E1.out.trans (hb2.mono E1.out.size)); have C2 := Lib.hid (C1.out.call hb2); have r0 := C2.out.cellv (i := 0) (v := .int .i64 c.str) rfl; have r1 := C2.out.cellv (i := 1) (v := .int .i64 c.smp) rfl; have r2 := C2.out.cellv (i := 2) (v := .int .i64 c.lod) rfl; have r3 := C2.out.cellv (i := 3) (v := .int .i64 c.his) rfl; clear hb2 q0 q1 q2 q3))
    go_ret
    exact ⟨rfl, E2.out⟩
  · rw [decide_eq_true hok] at HRt
    have d0 : decide ((30 : Int) < (len : Int)) = false := by simp; omega
    have d1 : decide ((30 : Int) < (len2 : Int)) = true := by simp; omega
    clear hok hf hl hl2
    go_enter Try.func8, Try.ntmps8
    go_wp2_with (first
        | (go_at_call 28; refine (awake17 _).mono ?_; rintro e v1 ⟨rfl, hb1⟩; have E1 := Lib.hid (E0.out.trans (hb1.mono E0.out.size)); have C1 := Lib.hid (C0.out.call hb1); have q0 := C1.out.cellv (i := 0) (v := .int .i64 c.str) rfl; have q1 := C1.out.cellv (i := 1) (v := .int .i64 c.smp) rfl; have q2 := C1.out.cellv (i := 2) (v := .int .i64 c.lod) rfl; have q3 := C1.out.cellv (i := 3) (v := .int .i64 c.his) rfl; clear hb1)
        | (go_at_call 30; refine (HRt.out _).mono ?_; rintro e v2 ⟨rfl, hb2⟩; have E2 := Lib.hid (E1.out.trans (hb2.mono E1.out.size)); have C2 := Lib.hid (C1.out.call hb2); have r0 := C2.out.cellv (i := 0) (v := .int .i64 c.str) rfl; have r1 := C2.out.cellv (i := 1) (v := .int .i64 c.smp) rfl; have r2 := C2.out.cellv (i := 2) (v := .int .i64 c.lod) rfl; have r3 := C2.out.cellv (i := 3) (v := .int .i64 c.his) rfl; clear hb2 q0 q1 q2 q3))
    go_ret
    exact ⟨rfl, E2.out⟩
  have HNw := Lib.hid (fun W => node_New c W hf hok)
  have HOk := Lib.hid hok
  rw [decide_eq_true hok] at HRt
  have d0 : decide ((30 : Int) < (len : Int)) = false := by simp; omega
  have d1 : decide ((30 : Int) < (len2 : Int)) = false := by simp; omega
  clear hok hf
  go_enter Try.func8, Try.ntmps8
  go_wp2_with (first
        | (go_at_call 28; refine (awake17 _).mono ?_; rintro e v1 ⟨rfl, hb1⟩; have E1 := Lib.hid (E0.out.trans (hb1.mono E0.out.size)); have C1 := Lib.hid (C0.out.call hb1); have q0 := C1.out.cellv (i := 0) (v := .int .i64 c.str) rfl; have q1 := C1.out.cellv (i := 1) (v := .int .i64 c.smp) rfl; have q2 := C1.out.cellv (i := 2) (v := .int .i64 c.lod) rfl; have q3 := C1.out.cellv (i := 3) (v := .int .i64 c.his) rfl; clear hb1)
        | (go_at_call 30; refine (HRt.out _).mono ?_; rintro e v2 ⟨rfl, hb2⟩; have E2 := Lib.hid (E1.out.trans (hb2.mono E1.out.size)); have C2 := Lib.hid (C1.out.call hb2); have r0 := C2.out.cellv (i := 0) (v := .int .i64 c.str) rfl; have r1 := C2.out.cellv (i := 1) (v := .int .i64 c.smp) rfl; have r2 := C2.out.cellv (i := 2) (v := .int .i64 c.lod) rfl; have r3 := C2.out.cellv (i := 3) (v := .int .i64 c.his) rfl; clear hb2 q0 q1 q2 q3)
        | (go_at_call 29; refine (HNw.out _).mono ?_; rintro e v3 ⟨p, F, rfl, hn3, hF3, hb3⟩; have E3 := Lib.hid (E2.out.trans (hb3.mono E2.out.size)); have C3 := Lib.hid (C2.out.call hb3); have N3 := Lib.hid hn3; have F3 := Lib.hid (fun k hk => Nat.lt_of_lt_of_le C2.out.lt (hF3 k hk)); clear hb3 hn3 hF3 r0 r1 r2 r3))
  have I0 := Lib.hid (show PlI w (v3.alloc (.cells (ld0.row nilv nilv) ldT)) v3.heap.size c ld0 nilv nilv p F false from
    ⟨C3.out.alloc _, Blk.new _ _ _, ldAt0 _, (fun a n c e => by cases e), (fun a n c e => by cases e), N3.out.call (by go_grown), fun k hk => ⟨F3.out k hk, by have := N3.out.lt k hk; omega⟩, E3.out.alloc E3.out.size _, C3.out.lt⟩)
  clear N3 C1 C2 C3 E1 E2 E3 F3
  generalize hgx : v3.heap.size = gx at *
  clear hgx
  go_loopw [7, 34] (fun n i wr => ∃ (k : Nat) (p : Option Addr) (F : Nat → Prop) (x : Ld) (s h : Value) (fr : Bool), k ≤ len ∧ i = .int .i64 k ∧ n = .pointer p ∧ LdOk c x k ∧ PlI w wr gx c x s h p F fr) (fun _ i _ => len - (intOf i).toNat)
  case atStart => exact ⟨0, _, _, _, _, _, false, Nat.zero_le _, rfl, rfl, ldok0 c, I0.out⟩
  case round =>
    obtain ⟨k, p, F3, x, s, h, fr, hk, rfl, rfl, hok3, hin⟩ := hrel
    have HI := Lib.hid hin
    have HOk3 := Lib.hid hok3
    clear hin hok3 I0
    obtain ⟨s1, h1, hs1⟩ : ∃ s1 h1, s1 = s ∧ h1 = h ∧ LdAt wr x s1 h1 := ⟨s, h, rfl, rfl, HI.out.ld⟩
    obtain ⟨rfl, rfl, A1, n1, cp1, A2, n2, cp2, rfl, rfl, -, -⟩ := hs1
    by_cases hlt : k < len
    · skip
      obtain ⟨b, off, a, rfl, hx, hb, hcell⟩ := HS.out.at_ hlt
      have k0 : wr.cell? ⟨b, off + k * 14, none⟩ = some (.int .i64 a.kind) := hcell wr HI.out.bel 0 (.int .i64 a.kind) rfl
      have k1 : wr.cell? ⟨b, off + k * 14 + 1, none⟩ = some (.int .i64 a.tick) := hcell wr HI.out.bel 1 (.int .i64 a.tick) rfl
      have k2 : wr.cell? ⟨b, off + k * 14 + 2, none⟩ = some (.int .i64 a.value) := hcell wr HI.out.bel 2 (.int .i64 a.value) rfl
      have k3 : wr.cell? ⟨b, off + k * 14 + 3, none⟩ = some (.int .i64 a.pol.min) := hcell wr HI.out.bel 3 (.int .i64 a.pol.min) rfl
      have k4 : wr.cell? ⟨b, off + k * 14 + 4, none⟩ = some (.int .i64 a.pol.max) := hcell wr HI.out.bel 4 (.int .i64 a.pol.max) rfl
      have k5 : wr.cell? ⟨b, off + k * 14 + 5, none⟩ = some (.int .i64 a.pol.target) := hcell wr HI.out.bel 5 (.int .i64 a.pol.target) rfl
      have k6 : wr.cell? ⟨b, off + k * 14 + 6, none⟩ = some (.int .i64 a.pol.tol) := hcell wr HI.out.bel 6 (.int .i64 a.pol.tol) rfl
      have k7 : wr.cell? ⟨b, off + k * 14 + 7, none⟩ = some (.int .i64 a.pol.window) := hcell wr HI.out.bel 7 (.int .i64 a.pol.window) rfl
      have k8 : wr.cell? ⟨b, off + k * 14 + 8, none⟩ = some (.int .i64 a.pol.hold) := hcell wr HI.out.bel 8 (.int .i64 a.pol.hold) rfl
      have k9 : wr.cell? ⟨b, off + k * 14 + 9, none⟩ = some (.int .i64 a.adv.tick) := hcell wr HI.out.bel 9 (.int .i64 a.adv.tick) rfl
      have k10 : wr.cell? ⟨b, off + k * 14 + 10, none⟩ = some (.int .i64 a.adv.load) := hcell wr HI.out.bel 10 (.int .i64 a.adv.load) rfl
      have k11 : wr.cell? ⟨b, off + k * 14 + 11, none⟩ = some (.int .i64 a.adv.want) := hcell wr HI.out.bel 11 (.int .i64 a.adv.want) rfl
      have k12 : wr.cell? ⟨b, off + k * 14 + 12, none⟩ = some (.int .i64 a.adv.repl) := hcell wr HI.out.bel 12 (.int .i64 a.adv.repl) rfl
      have k13 : wr.cell? ⟨b, off + k * 14 + 13, none⟩ = some (.int .i64 a.adv.why) := hcell wr HI.out.bel 13 (.int .i64 a.adv.why) rfl
      have hki : (k : Int) < (len : Int) := by omega
      have I1 := Lib.hid (HI.out.call ((Below.refl _ wr).alloc (Nat.le_refl _) (.cells a.row acT)))
      have X1 := Lib.hid (Blk.new wr acT a.row)
      have HDo := Lib.hid (law_do p F3 c x fr a _ I1.out.nd HOk.out k HOk3.out (by omega))
      have HRf := Lib.hid (fun s h W hW => ref17_Do c x a s h W hW HOk.out k HOk3.out (by omega))
      have HNx := Lib.hid (HOk3.out.next HOk.out a)
      have HFl := Lib.hid HI.out.nd.lt
      clear hx hb hcell
      have HDo2 := Lib.hid (HDo.out.mono (fun e w' h => (show ∃ p', e = .returned (.tuple #[.pointer p', .int .i64 (nerr a), .int .i64 (if a.kind = 1 then goneq x a.tick else 0)]) ∧ NRes2 p F3 c x fr (ndo c x a) (nfr c x fr a) _ p' w' from h)))
      clear HDo
      generalize hy : ndo c x a = y at *
      generalize hnf : nfr c x fr a = fr2 at *
      generalize hgo : (if a.kind = 1 then goneq x a.tick else 0) = GN at *
      generalize htr : ngone c x a = TR at *
      generalize her : nerr a = ER at *
      have HY := Lib.hid hy
      have HER := Lib.hid her
      have HTR := Lib.hid htr
      clear hy hnf hgo htr her
      have HRf2 := Lib.hid (fun s h W (hW : LdAt W x s h) => (HRf.out s h W hW).mono (fun e w' hd => (show ∃ A5 n5 c5 A6 n6 c6, e = .returned (.tuple #[.agg (y.row (.slice A5 n5 c5) (.slice A6 n6 c6)), .int .i64 ER, .int .i64 TR]) ∧ LdAt w' y (.slice A5 n5 c5) (.slice A6 n6 c6) ∧ Below W.heap.size W w' ∧ NewSl W s (.slice A5 n5 c5) ∧ NewSl W h (.slice A6 n6 c6) from by
        obtain ⟨s', h', e1, hl, r⟩ := hd
        rw [HY.out] at hl e1
        rw [HER.out, HTR.out] at e1
        obtain ⟨A5, n5, c5, A6, n6, c6, rfl, rfl, r1, r2⟩ := hl
        exact ⟨A5, n5, c5, A6, n6, c6, e1, ⟨_, _, _, _, _, _, rfl, rfl, r1, r2⟩, r⟩)))
      clear HRf HY HER HTR
      go_wp2_with (first
        | (refine Blk.load rfl 68 (.tmp 10) rfl _ _ _ _ rfl X1.out Try.underlying68 rfl (by kernel_rfl) ?_)
        | (go_at_call 32; refine HDo2.out.mono ?_; rintro e v2 ⟨p2, rfl, hres⟩; have X2 := Lib.hid (X1.out.upd hres.upd (fun hf => by have := HFl.out _ hf; omega)); obtain ⟨F4, hm2⟩ := I1.out.step hres; have M2 := Lib.hid hm2; clear hres hm2 k0 k1 k2 k3 k4 k5 k6 k7 k8 k9 k10 k11 k12 k13)
        | (refine Blk.load rfl 53 (.tmp 3) rfl _ _ _ _ rfl M2.out.cb Try.underlying53 rfl (by kernel_rfl) ?_)
        | (refine Blk.load rfl 64 (.tmp 8) rfl _ _ _ _ rfl M2.out.xb Try.underlying64 rfl (by kernel_rfl) ?_)
        | (refine Blk.load rfl 68 (.tmp 10) rfl _ _ _ _ rfl X2.out Try.underlying68 rfl (by kernel_rfl) ?_)
        | (go_at_call 33; refine (HRf2.out _ _ _ M2.out.ld).mono ?_; rintro e v3 ⟨A5, n5, c5, A6, n6, c6, rfl, hl3, hb3, hn3, hn4⟩; have L3 := Lib.hid hl3; have B3 := Lib.hid hb3; have N3 := Lib.hid hn3; have N4 := Lib.hid hn4; have M3 := Lib.hid (M2.out.call hb3); clear hl3 hb3 hn3 hn4)
        | (refine wpList_store_row rfl 64 (.tmp 8) (.tmp 50) rfl gx _ _ _ rfl rfl M3.out.xb (by rfl) (by kernel_rfl) (row_one _ _ _ _ _ _ _) ?_; intro w9 hb9 hg9; have P9 := Lib.hid (M2.out.next L3.out B3.out N3.out N4.out hb9 hg9); skip; clear hb9 hg9))
      go_roundw
      case rel => exact ⟨k + 1, p2, F4, y, _, _, _, by omega, by go_num, rfl, HNx.out, P9.out⟩
      case measure => simp [intOf]; omega
    · obtain rfl : k = len := by omega
      have HFz := Lib.hid (node_Freeze2 p F3 c x fr _ HI.out.nd)
      focus (go_upto_region 15 with (first
        | (go_at_call 36; refine HFz.out.mono ?_; rintro e v4 ⟨rfl, hn4, hu4, -⟩; have I4 := Lib.hid (show PlI w v4 gx c x (.slice A1 n1 cp1) (.slice A2 n2 cp2) p F3 true from ⟨HI.out.cb.upd hu4 (fun hf => by have := (HI.out.fb _ hf).1; omega), HI.out.xb.upd hu4 (fun hf => (HI.out.fb _ hf).2 rfl), HI.out.ld.upd hu4 (HI.out.so.mono (fun k hk => .inl hk)) (HI.out.ho.mono (fun k hk => .inl hk)), HI.out.so, HI.out.ho, hn4, HI.out.fb, HI.out.bel.trans (hu4.below (fun k hk => Nat.le_of_lt (HI.out.fb k hk).1) HI.out.bel.size), HI.out.gb⟩); clear hn4 hu4)
        | (refine Blk.load rfl 64 (.tmp 8) rfl _ _ _ _ rfl I4.out.xb Try.underlying64 rfl (by kernel_rfl) ?_)))
      have J0 := Lib.hid (show PlI w (v4.alloc (.cells (x.row (.slice A1 n1 cp1) (.slice A2 n2 cp2)) ldT)) v4.heap.size c x (.slice A1 n1 cp1) (.slice A2 n2 cp2) p F3 true from
        ⟨I4.out.cb.alloc _, Blk.new _ _ _, I4.out.ld.call (by go_grown), (I4.out.so.or I4.out.ld.lt.1).mono (fun k hk => by rcases hk with hk | hk; exact .inl (.inl hk); exact .inr (by show v4.heap.size ≤ k; omega)), (I4.out.ho.or I4.out.ld.lt.2).mono (fun k hk => by rcases hk with hk | hk; exact .inl (.inl hk); exact .inr (by show v4.heap.size ≤ k; omega)), I4.out.nd.call (by go_grown), fun k hk => ⟨(I4.out.fb k hk).1, by have := I4.out.nd.lt k hk; omega⟩, I4.out.bel.alloc I4.out.bel.size _, I4.out.cb.lt⟩)
      have Z0 := Lib.hid (show Below v4.heap.size v4 (v4.alloc (.cells (x.row (.slice A1 n1 cp1) (.slice A2 n2 cp2)) ldT)) by go_grown)
      have HK30 : k ≤ 30 := hl
      have HOk4 := Lib.hid (HOk3.out.le (m := 30 + 0) (by omega))
      have HOkx := Lib.hid HOk3.out
      obtain ⟨p2, hp2⟩ : ∃ p2, p2 = p := ⟨_, rfl⟩
      subst hp2
      clear HI HFz HOk3 hk
      go_wp2
      go_loopw [7, 59] (fun n i wr => ∃ (m2 : Nat) (p2 : Option Addr) (F : Nat → Prop) (x2 : Ld) (s h : Value) (fr : Bool), m2 ≤ len2 ∧ i = .int .i64 m2 ∧ n = .pointer p2 ∧ LdOk c x2 (30 + m2) ∧ PlI w wr v4.heap.size c x2 s h p2 F fr ∧ Below v4.heap.size v4 wr ∧ (fr = true ∨ ∀ k, F k → v4.heap.size ≤ k)) (fun _ i _ => len2 - (intOf i).toNat)
      case atStart => exact ⟨0, _, _, _, _, _, true, Nat.zero_le _, rfl, rfl, HOk4.out, J0.out, Z0.out, .inl rfl⟩
      case round =>
        obtain ⟨m2, p3, F3, x2, s, h, fr, hk2, rfl, rfl, hok3, hin, hzz, hdd⟩ := hrel
        have HI := Lib.hid hin
        have HOk3 := Lib.hid hok3
        have HZ := Lib.hid hzz
        have HD := Lib.hid hdd
        have HGB := Lib.hid (Nat.le_refl v4.heap.size)
        clear hin hok3 hzz hdd J0 Z0 HOk4
        obtain ⟨s1, h1, hs1⟩ : ∃ s1 h1, s1 = s ∧ h1 = h ∧ LdAt wr x2 s1 h1 := ⟨s, h, rfl, rfl, HI.out.ld⟩
        obtain ⟨rfl, rfl, A3, n3, cp3, A4, n4, cp4, rfl, rfl, -, -⟩ := hs1
        by_cases hlt : m2 < len2
        · skip
          obtain ⟨b, off, a, rfl, hx, hb, hcell⟩ := HS2.out.at_ hlt
          have k0 : wr.cell? ⟨b, off + m2 * 14, none⟩ = some (.int .i64 a.kind) := hcell wr HI.out.bel 0 (.int .i64 a.kind) rfl
          have k1 : wr.cell? ⟨b, off + m2 * 14 + 1, none⟩ = some (.int .i64 a.tick) := hcell wr HI.out.bel 1 (.int .i64 a.tick) rfl
          have k2 : wr.cell? ⟨b, off + m2 * 14 + 2, none⟩ = some (.int .i64 a.value) := hcell wr HI.out.bel 2 (.int .i64 a.value) rfl
          have k3 : wr.cell? ⟨b, off + m2 * 14 + 3, none⟩ = some (.int .i64 a.pol.min) := hcell wr HI.out.bel 3 (.int .i64 a.pol.min) rfl
          have k4 : wr.cell? ⟨b, off + m2 * 14 + 4, none⟩ = some (.int .i64 a.pol.max) := hcell wr HI.out.bel 4 (.int .i64 a.pol.max) rfl
          have k5 : wr.cell? ⟨b, off + m2 * 14 + 5, none⟩ = some (.int .i64 a.pol.target) := hcell wr HI.out.bel 5 (.int .i64 a.pol.target) rfl
          have k6 : wr.cell? ⟨b, off + m2 * 14 + 6, none⟩ = some (.int .i64 a.pol.tol) := hcell wr HI.out.bel 6 (.int .i64 a.pol.tol) rfl
          have k7 : wr.cell? ⟨b, off + m2 * 14 + 7, none⟩ = some (.int .i64 a.pol.window) := hcell wr HI.out.bel 7 (.int .i64 a.pol.window) rfl
          have k8 : wr.cell? ⟨b, off + m2 * 14 + 8, none⟩ = some (.int .i64 a.pol.hold) := hcell wr HI.out.bel 8 (.int .i64 a.pol.hold) rfl
          have k9 : wr.cell? ⟨b, off + m2 * 14 + 9, none⟩ = some (.int .i64 a.adv.tick) := hcell wr HI.out.bel 9 (.int .i64 a.adv.tick) rfl
          have k10 : wr.cell? ⟨b, off + m2 * 14 + 10, none⟩ = some (.int .i64 a.adv.load) := hcell wr HI.out.bel 10 (.int .i64 a.adv.load) rfl
          have k11 : wr.cell? ⟨b, off + m2 * 14 + 11, none⟩ = some (.int .i64 a.adv.want) := hcell wr HI.out.bel 11 (.int .i64 a.adv.want) rfl
          have k12 : wr.cell? ⟨b, off + m2 * 14 + 12, none⟩ = some (.int .i64 a.adv.repl) := hcell wr HI.out.bel 12 (.int .i64 a.adv.repl) rfl
          have k13 : wr.cell? ⟨b, off + m2 * 14 + 13, none⟩ = some (.int .i64 a.adv.why) := hcell wr HI.out.bel 13 (.int .i64 a.adv.why) rfl
          have hki : (m2 : Int) < (len2 : Int) := by omega
          have I1 := Lib.hid (HI.out.call ((Below.refl _ wr).alloc (Nat.le_refl _) (.cells a.row acT)))
          have X1 := Lib.hid (Blk.new wr acT a.row)
          have HDo := Lib.hid (law_do p3 F3 c x2 fr a _ I1.out.nd HOk.out (30 + m2) HOk3.out (by omega))
          have HRf := Lib.hid (fun s h W hW => ref17_Do c x2 a s h W hW HOk.out (30 + m2) HOk3.out (by omega))
          have HNx := Lib.hid (HOk3.out.next HOk.out a)
          have HFl := Lib.hid HI.out.nd.lt
          clear hx hb hcell
          have HDo2 := Lib.hid (HDo.out.mono (fun e w' h => (show ∃ p', e = .returned (.tuple #[.pointer p', .int .i64 (nerr a), .int .i64 (if a.kind = 1 then goneq x2 a.tick else 0)]) ∧ NRes2 p3 F3 c x2 fr (ndo c x2 a) (nfr c x2 fr a) _ p' w' from h)))
          clear HDo
          generalize hy : ndo c x2 a = y at *
          generalize hnf : nfr c x2 fr a = fr2 at *
          generalize hgo : (if a.kind = 1 then goneq x2 a.tick else 0) = GN at *
          generalize htr : ngone c x2 a = TR at *
          generalize her : nerr a = ER at *
          have HY := Lib.hid hy
          have HER := Lib.hid her
          have HTR := Lib.hid htr
          clear hy hnf hgo htr her
          have HRf2 := Lib.hid (fun s h W (hW : LdAt W x2 s h) => (HRf.out s h W hW).mono (fun e w' hd => (show ∃ A5 n5 c5 A6 n6 c6, e = .returned (.tuple #[.agg (y.row (.slice A5 n5 c5) (.slice A6 n6 c6)), .int .i64 ER, .int .i64 TR]) ∧ LdAt w' y (.slice A5 n5 c5) (.slice A6 n6 c6) ∧ Below W.heap.size W w' ∧ NewSl W s (.slice A5 n5 c5) ∧ NewSl W h (.slice A6 n6 c6) from by
            obtain ⟨s', h', e1, hl, r⟩ := hd
            rw [HY.out] at hl e1
            rw [HER.out, HTR.out] at e1
            obtain ⟨A5, n5, c5, A6, n6, c6, rfl, rfl, r1, r2⟩ := hl
            exact ⟨A5, n5, c5, A6, n6, c6, e1, ⟨_, _, _, _, _, _, rfl, rfl, r1, r2⟩, r⟩)))
          clear HRf HY HER HTR
          go_wp2_with (first
            | (refine Blk.load rfl 68 (.tmp 14) rfl _ _ _ _ rfl X1.out Try.underlying68 rfl (by kernel_rfl) ?_)
            | (go_at_call 32; refine HDo2.out.mono ?_; rintro e v2 ⟨p5, rfl, hres⟩; have X2 := Lib.hid (X1.out.upd hres.upd (fun hf => by have := HFl.out _ hf; omega)); obtain ⟨F4, hm2, hz2, hd2⟩ := I1.out.step2 (HZ.out.trans (((Below.refl _ wr).alloc (Nat.le_refl _) (.cells a.row acT)).mono HZ.out.size)) HD.out hres (by have := HZ.out.size; simp; omega); have Z2 := Lib.hid hz2; have D2 := Lib.hid hd2; clear hz2 hd2; have M2 := Lib.hid hm2; clear hres hm2 k0 k1 k2 k3 k4 k5 k6 k7 k8 k9 k10 k11 k12 k13)
            | (refine Blk.load rfl 53 (.tmp 3) rfl _ _ _ _ rfl M2.out.cb Try.underlying53 rfl (by kernel_rfl) ?_)
            | (refine Blk.load rfl 64 (.tmp 12) rfl _ _ _ _ rfl M2.out.xb Try.underlying64 rfl (by kernel_rfl) ?_)
            | (refine Blk.load rfl 68 (.tmp 14) rfl _ _ _ _ rfl X2.out Try.underlying68 rfl (by kernel_rfl) ?_)
            | (go_at_call 33; refine (HRf2.out _ _ _ M2.out.ld).mono ?_; rintro e v3 ⟨A5, n5, c5, A6, n6, c6, rfl, hl3, hb3, hn3, hn4⟩; have L3 := Lib.hid hl3; have B3 := Lib.hid hb3; have N3 := Lib.hid hn3; have N4 := Lib.hid hn4; have M3 := Lib.hid (M2.out.call hb3); clear hl3 hb3 hn3 hn4)
            | (refine wpList_store_row rfl 64 (.tmp 12) (.tmp 75) rfl v4.heap.size _ _ _ rfl rfl M3.out.xb (by rfl) (by kernel_rfl) (row_one _ _ _ _ _ _ _) ?_; intro w9 hb9 hg9; have P9 := Lib.hid (M2.out.next L3.out B3.out N3.out N4.out hb9 hg9); have Z9 := Lib.hid ((Z2.out.trans (B3.out.mono Z2.out.size)).trans (Only.below hg9 HGB.out (by have := Z2.out.size; have := B3.out.size; omega))); clear hb9 hg9))
          go_roundw
          case rel => exact ⟨m2 + 1, p5, F4, y, _, _, _, by omega, by go_num, rfl, HNx.out, P9.out, Z9.out, D2.out⟩
          case measure => simp [intOf]; omega
        · obtain rfl : m2 = len2 := by omega
          have I5 := Lib.hid (I4.out.call HZ.out)
          have hsm := (HOkx.out).small HOk.out
          have hsm2 := HOk3.out.small HOk.out
          have HT1 := Lib.hid (law_told p2 x _ _ wr (tells_node I5.out.nd) I5.out.ld hsm.1 hsm.2)
          have HT2 := Lib.hid (fun W (hb : Below wr.heap.size wr W) => law_told p3 x2 _ _ W (tells_node (HI.out.nd.call hb)) (HI.out.ld.call hb) hsm2.1 hsm2.2)
          have HF1 := Lib.hid (node_Frozen p2 _ c x true wr I5.out.nd)
          have z0 := I5.out.xb.cellv (i := 0) (v := .slice A1 n1 cp1) rfl
          have z1 := I5.out.xb.cellv (i := 1) (v := .slice A2 n2 cp2) rfl
          have z2 := I5.out.xb.cellv (i := 2) (v := .int .i64 x.pol.min) rfl
          have z3 := I5.out.xb.cellv (i := 3) (v := .int .i64 x.pol.max) rfl
          have z4 := I5.out.xb.cellv (i := 4) (v := .int .i64 x.pol.target) rfl
          have z5 := I5.out.xb.cellv (i := 5) (v := .int .i64 x.pol.tol) rfl
          have z6 := I5.out.xb.cellv (i := 6) (v := .int .i64 x.pol.window) rfl
          have z7 := I5.out.xb.cellv (i := 7) (v := .int .i64 x.pol.hold) rfl
          have z8 := I5.out.xb.cellv (i := 8) (v := .bool x.ruled) rfl
          have z9 := I5.out.xb.cellv (i := 9) (v := .int .i64 x.ver) rfl
          have HX2 := Lib.hid (fun W (hb : Below wr.heap.size wr W) => HI.out.xb.call hb)
          clear hsm hsm2
          go_wp2_with (first
            | (go_at_call 35; refine HF1.out.mono ?_; rintro e w1 ⟨rfl, rfl⟩)
            | (go_at_call 34; (with_reducible refine HT1.out.mono ?_); rintro e w5 ⟨rfl, hb5⟩; have B5 := Lib.hid hb5; clear hb5; have u0 := (HX2.out _ B5.out).cellv (i := 0) (v := .slice A3 n3 cp3) rfl; have u1 := (HX2.out _ B5.out).cellv (i := 1) (v := .slice A4 n4 cp4) rfl; have u2 := (HX2.out _ B5.out).cellv (i := 2) (v := .int .i64 x2.pol.min) rfl; have u3 := (HX2.out _ B5.out).cellv (i := 3) (v := .int .i64 x2.pol.max) rfl; have u4 := (HX2.out _ B5.out).cellv (i := 4) (v := .int .i64 x2.pol.target) rfl; have u5 := (HX2.out _ B5.out).cellv (i := 5) (v := .int .i64 x2.pol.tol) rfl; have u6 := (HX2.out _ B5.out).cellv (i := 6) (v := .int .i64 x2.pol.window) rfl; have u7 := (HX2.out _ B5.out).cellv (i := 7) (v := .int .i64 x2.pol.hold) rfl; have u8 := (HX2.out _ B5.out).cellv (i := 8) (v := .bool x2.ruled) rfl; have u9 := (HX2.out _ B5.out).cellv (i := 9) (v := .int .i64 x2.ver) rfl)
            | (go_at_call 34; (with_reducible refine (HT2.out _ B5.out).mono ?_); rintro e w6 ⟨rfl, hb6⟩; have B6 := Lib.hid (B5.out.trans (hb6.mono B5.out.size)); clear hb6))
          go_ret
          exact ⟨rfl, I5.out.bel.trans (B6.out.mono I5.out.bel.size)⟩
end Go.Proofs.Ytfeccjjheiillaa
