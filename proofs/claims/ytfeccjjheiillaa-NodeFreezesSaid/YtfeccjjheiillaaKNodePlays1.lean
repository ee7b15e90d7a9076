/- Several texts in one. -/
import Derived.Test.YtfeccjjheiillaaKNodeNone5
/- Chapter 17's law: NodePlays. (fast region) -/
namespace Go.Proofs.Ytfeccjjheiillaa
open Go.RowKit
set_option linter.unusedSimpArgs false
set_option linter.unusedVariables false
set_option maxHeartbeats 4000000
set_option maxRecDepth 100000
theorem NRes2.upd {p p' : Option Addr} {F : Nat → Prop} {c : Cfg} {x y : Ld} {fr fr' : Bool} {W W' : World} (h : NRes2 p F c x fr y fr' W p' W') : Upd F W W' := by
  rcases h with ⟨F', n1, s1, s2, s3⟩ | ⟨rfl, rfl, rfl, n1, b1⟩
  · exact s1
  · exact Upd.of_below b1
theorem goneq_one {c : Cfg} {x : Ld} {a : NAct} (h : a.kind = 1) : goneq x a.tick = ngone c x a := by
  unfold goneq ngone ndo ntrim
  rw [if_neg (by omega), if_pos h]
  split <;> simp_all
/-- What the tests on versions and kinds come to. -/
theorem nfr_cases (c : Cfg) (x : Ld) (fr : Bool) (a : NAct) :
    (((ndo c x a).ver != x.ver) = true ∧ decide (a.kind < 0) = false ∧ decide (3 < a.kind) = false ∧ nfr c x fr a = false) ∨ (((ndo c x a).ver != x.ver) = false ∧ decide (a.kind < 0) = false ∧ decide (3 < a.kind) = false ∧ nfr c x fr a = fr) ∨
    (((ndo c x a).ver != x.ver) = false ∧ decide (a.kind < 0) = true ∧ nfr c x fr a = true) ∨ (((ndo c x a).ver != x.ver) = false ∧ decide (a.kind < 0) = false ∧ decide (3 < a.kind) = true ∧ nfr c x fr a = true) := by
  by_cases h : 0 ≤ a.kind ∧ a.kind ≤ 3
  · have e1 : decide (a.kind < 0) = false := by simp; omega
    have e2 : decide (3 < a.kind) = false := by simp; omega
    unfold nfr
    rw [if_pos h]
    by_cases hv : (ndo c x a).ver = x.ver
    · right; left; rw [if_pos hv]; exact ⟨by simpa using hv, e1, e2, rfl⟩
    · left; rw [if_neg hv]; exact ⟨by simpa using hv, e1, e2, rfl⟩
  · have hy : ndo c x a = x := by unfold ndo; rw [if_neg (by omega), if_neg (by omega), if_neg (by omega), if_neg (by omega)]
    have hf : nfr c x fr a = true := by unfold nfr; rw [if_neg h]
    rw [hy]
    by_cases h0 : a.kind < 0
    · right; right; left; exact ⟨by simp, by simpa using h0, hf⟩
    · right; right; right; exact ⟨by simp, by simpa using h0, by simp; omega, hf⟩
theorem walk_NodePlays (c0 c1 c2 c3 : Int) (A : Option Addr) (len cap : Nat) (l : List NAct) (w : World) (h0 : I64 c0) (h1 : I64 c1) (h2 : I64 c2) (h3 : I64 c3) (hs : NActsAre w A len cap l) (hg : ∀ x ∈ l, x.good) :
    Calls Try.prog 7 #[.agg #[.int .i64 c0, .int .i64 c1, .int .i64 c2, .int .i64 c3], .slice A len cap] w fun e w' => e = .returned (.bool true) ∧ Below w.heap.size w w' := by
  obtain ⟨c, rfl, rfl, rfl, rfl⟩ : ∃ c : Cfg, c0 = c.str ∧ c1 = c.smp ∧ c2 = c.lod ∧ c3 = c.his := ⟨⟨c0, c1, c2, c3⟩, rfl, rfl, rfl, rfl⟩
  have hf : c.fit := ⟨h0, h1, h2, h3⟩
  have HS := Lib.hid hs
  have HL := Lib.hid hs.1
  have hle : len ≤ cap := hs.2.1
  have hm : cap ≤ 9223372036854775807 := by have := hs.2.2.1; unfold maxLen at this; omega
  have E0 := Lib.hid (show Below w.heap.size w (w.alloc (.cells c.row cfT)) by go_grown)
  have C0 := Lib.hid (Blk.new w cfT c.row)
  have HRt := Lib.hid (fun W => ref17_Right c W hf)
  have HNr := Lib.hid (fun W => node_Right c W hf)
  clear h0 h1 h2 h3 hs hg
  by_cases hok : c.okC
  · have HNw := Lib.hid (fun W => node_New c W hf hok)
    have HOk := Lib.hid hok
    rw [decide_eq_true hok] at HRt
    rw [show cfgErr c = 0 from if_pos hok] at HNr
    clear hok hf
    by_cases hl : 40 < len
    · have d0 : decide ((40 : Int) < (len : Int)) = true := by simp; omega
      clear hl
      go_enter Try.func7, Try.ntmps7
      go_wp2_with (first
        | (go_at_call 28; refine (awake17 _).mono ?_; rintro e v1 ⟨rfl, hb1⟩; have E1 := Lib.hid (E0.out.trans (hb1.mono E0.out.size)); have C1 := Lib.hid (C0.out.call hb1); have q0 := C1.out.cellv (i := 0) (v := .int .i64 c.str) rfl; have q1 := C1.out.cellv (i := 1) (v := .int .i64 c.smp) rfl; have q2 := C1.out.cellv (i := 2) (v := .int .i64 c.lod) rfl; have q3 := C1.out.cellv (i := 3) (v := .int .i64 c.his) rfl; clear hb1)
        | (go_at_call 29; refine (HNw.out _).mono ?_; rintro e v2 ⟨p, F, rfl, hn2, hF2, hb2⟩; obtain ⟨g2, gs2, ph2, rfl, -, -, -⟩ := hn2.blk; have E2 := Lib.hid (E1.out.trans (hb2.mono E1.out.size)); have C2 := Lib.hid (C1.out.call hb2); have r0 := C2.out.cellv (i := 0) (v := .int .i64 c.str) rfl; have r1 := C2.out.cellv (i := 1) (v := .int .i64 c.smp) rfl; have r2 := C2.out.cellv (i := 2) (v := .int .i64 c.lod) rfl; have r3 := C2.out.cellv (i := 3) (v := .int .i64 c.his) rfl; clear hb2 hn2 hF2 q0 q1 q2 q3)
        | (go_at_call 30; refine (HRt.out _).mono ?_; rintro e v3 ⟨rfl, hb3⟩; have E3 := Lib.hid (E2.out.trans (hb3.mono E2.out.size)); have C3 := Lib.hid (C2.out.call hb3); have s0 := C3.out.cellv (i := 0) (v := .int .i64 c.str) rfl; have s1 := C3.out.cellv (i := 1) (v := .int .i64 c.smp) rfl; have s2 := C3.out.cellv (i := 2) (v := .int .i64 c.lod) rfl; have s3 := C3.out.cellv (i := 3) (v := .int .i64 c.his) rfl; clear hb3 r0 r1 r2 r3)
        | (go_at_call 31; refine (HNr.out _).mono ?_; rintro e v4 ⟨rfl, hb4⟩; have E4 := Lib.hid (E3.out.trans (hb4.mono E3.out.size)); clear hb4 s0 s1 s2 s3))
      go_ret
      exact ⟨rfl, E4.out⟩
    have d0 : decide ((40 : Int) < (len : Int)) = false := by simp; omega
    have hlen : len ≤ 40 := by omega
    clear hl
    go_enter Try.func7, Try.ntmps7
    go_wp2_with (first
      | (go_at_call 28; refine (awake17 _).mono ?_; rintro e v1 ⟨rfl, hb1⟩; have E1 := Lib.hid (E0.out.trans (hb1.mono E0.out.size)); have C1 := Lib.hid (C0.out.call hb1); have q0 := C1.out.cellv (i := 0) (v := .int .i64 c.str) rfl; have q1 := C1.out.cellv (i := 1) (v := .int .i64 c.smp) rfl; have q2 := C1.out.cellv (i := 2) (v := .int .i64 c.lod) rfl; have q3 := C1.out.cellv (i := 3) (v := .int .i64 c.his) rfl; clear hb1)
      | (go_at_call 29; refine (HNw.out _).mono ?_; rintro e v2 ⟨p, F, rfl, hn2, hF2, hb2⟩; obtain ⟨g2, gs2, ph2, rfl, -, -, -⟩ := hn2.blk; have E2 := Lib.hid (E1.out.trans (hb2.mono E1.out.size)); have C2 := Lib.hid (C1.out.call hb2); have N2 := Lib.hid hn2; have F2 := Lib.hid (fun k hk => Nat.lt_of_lt_of_le C1.out.lt (hF2 k hk)); have r0 := C2.out.cellv (i := 0) (v := .int .i64 c.str) rfl; have r1 := C2.out.cellv (i := 1) (v := .int .i64 c.smp) rfl; have r2 := C2.out.cellv (i := 2) (v := .int .i64 c.lod) rfl; have r3 := C2.out.cellv (i := 3) (v := .int .i64 c.his) rfl; clear hb2 hn2 hF2 q0 q1 q2 q3)
      | (go_at_call 30; refine (HRt.out _).mono ?_; rintro e v3 ⟨rfl, hb3⟩; have E3 := Lib.hid (E2.out.trans (hb3.mono E2.out.size)); have N3 := Lib.hid (N2.out.call hb3); have C3 := Lib.hid (C2.out.call hb3); have s0 := C3.out.cellv (i := 0) (v := .int .i64 c.str) rfl; have s1 := C3.out.cellv (i := 1) (v := .int .i64 c.smp) rfl; have s2 := C3.out.cellv (i := 2) (v := .int .i64 c.lod) rfl; have s3 := C3.out.cellv (i := 3) (v := .int .i64 c.his) rfl; clear hb3 r0 r1 r2 r3)
      | (go_at_call 31; refine (HNr.out _).mono ?_; rintro e v4 ⟨rfl, hb4⟩; have E4 := Lib.hid (E3.out.trans (hb4.mono E3.out.size)); have N4 := Lib.hid (N3.out.call hb4); have C4 := Lib.hid (C3.out.call hb4); clear hb4 s0 s1 s2 s3))
    have I0 := Lib.hid (show PlI w (v4.alloc (.cells (ld0.row nilv nilv) ldT)) v4.heap.size c ld0 nilv nilv (some ⟨g2, 0, none⟩) F false from
      ⟨C4.out.alloc _, Blk.new _ _ _, ldAt0 _, (fun a n c e => by cases e), (fun a n c e => by cases e), N4.out.call (by go_grown), fun k hk => ⟨F2.out k hk, by have := N4.out.lt k hk; omega⟩, E4.out.alloc E4.out.size _, C4.out.lt⟩)
    clear N2 N3 N4 C1 C2 C3 C4 E1 E2 E3 F2
    generalize hgx : v4.heap.size = gx at *
    clear hgx
    go_loopw [5, 8, 52] (fun n f i wr => ∃ (k : Nat) (p : Option Addr) (F : Nat → Prop) (x : Ld) (s h : Value) (fr : Bool), k ≤ len ∧ i = .int .i64 k ∧ n = .pointer p ∧ f = .bool fr ∧ LdOk c x k ∧ PlI w wr gx c x s h p F fr) (fun _ _ i _ => len - (intOf i).toNat)
    case atStart => exact ⟨0, _, _, _, _, _, false, Nat.zero_le _, rfl, rfl, rfl, ldok0 c, I0.out⟩
    case round =>
      obtain ⟨k, p, F3, x, s, h, fr, hk, rfl, rfl, rfl, hok3, hin⟩ := hrel
      have HI := Lib.hid hin
      have HOk3 := Lib.hid hok3
      clear hin hok3 I0
      by_cases hlt : k < len
      · obtain ⟨b, off, a, rfl, hx, hb, hcell⟩ := HS.out.at_ hlt
        have k0 : wr.cell? ⟨b, off + k * 14, none⟩ = some (.int .i64 a.kind) := hcell wr HI.out.bel 0 (.int .i64 a.kind) rfl
        have k1 := hcell wr HI.out.bel 1 (.int .i64 a.tick) rfl
        have k2 := hcell wr HI.out.bel 2 (.int .i64 a.value) rfl
        have k3 := hcell wr HI.out.bel 3 (.int .i64 a.pol.min) rfl
        have k4 := hcell wr HI.out.bel 4 (.int .i64 a.pol.max) rfl
        have k5 := hcell wr HI.out.bel 5 (.int .i64 a.pol.target) rfl
        have k6 := hcell wr HI.out.bel 6 (.int .i64 a.pol.tol) rfl
        have k7 := hcell wr HI.out.bel 7 (.int .i64 a.pol.window) rfl
        have k8 := hcell wr HI.out.bel 8 (.int .i64 a.pol.hold) rfl
        have k9 := hcell wr HI.out.bel 9 (.int .i64 a.adv.tick) rfl
        have k10 := hcell wr HI.out.bel 10 (.int .i64 a.adv.load) rfl
        have k11 := hcell wr HI.out.bel 11 (.int .i64 a.adv.want) rfl
        have k12 := hcell wr HI.out.bel 12 (.int .i64 a.adv.repl) rfl
        have k13 := hcell wr HI.out.bel 13 (.int .i64 a.adv.why) rfl
        have hki : (k : Int) < (len : Int) := by omega
        have I1 := Lib.hid (HI.out.call ((Below.refl _ wr).alloc (Nat.le_refl _) (.cells a.row acT)))
        have X1 := Lib.hid (Blk.new wr acT a.row)
        have HDo := Lib.hid (law_do p F3 c x fr a _ I1.out.nd HOk.out k HOk3.out (by omega))
        have HRf := Lib.hid (fun s h W hW => ref17_Do c x a s h W hW HOk.out k HOk3.out (by omega))
        have HNx := Lib.hid (HOk3.out.next HOk.out a)
        have HFl := Lib.hid HI.out.nd.lt
        have hcs := nfr_cases c x fr a
        have hGN := goneq_one (c := c) (x := x) (a := a)
        have HSm := Lib.hid (HNx.out.small HOk.out)
        have HTo := Lib.hid (fun p' s' h' W ht hl => law_told p' (ndo c x a) s' h' W ht hl HSm.out.1 HSm.out.2)
        obtain ⟨s1, h1, hs1⟩ : ∃ s1 h1, s1 = s ∧ h1 = h ∧ LdAt wr x s1 h1 := ⟨s, h, rfl, rfl, HI.out.ld⟩
        obtain ⟨rfl, rfl, A1, n1, cp1, A2, n2, cp2, rfl, rfl, -, -⟩ := hs1
        clear hx hb hcell
        have HDo2 := Lib.hid (HDo.out.mono (fun e w' h => (show ∃ p', e = .returned (.tuple #[.pointer p', .int .i64 (nerr a), .int .i64 (if a.kind = 1 then goneq x a.tick else 0)]) ∧ NRes2 p F3 c x fr (ndo c x a) (nfr c x fr a) _ p' w' from h)))
        clear HDo
        generalize hy : ndo c x a = y at *
        generalize hnf : nfr c x fr a = fr2 at *
        generalize hgo : (if a.kind = 1 then goneq x a.tick else 0) = GN at *
        generalize htr : ngone c x a = TR at *
        generalize her : nerr a = ER at *
        have HY := Lib.hid hy
        have HER := Lib.hid her
        have HTR := Lib.hid htr
        have HGN := Lib.hid (show a.kind = 1 → GN = TR from fun h => by rw [← hgo, if_pos h]; exact hGN h)
        clear hy hnf hgo htr her hGN
        have HRf2 := Lib.hid (fun s h W (hW : LdAt W x s h) => (HRf.out s h W hW).mono (fun e w' hd => (show ∃ A5 n5 c5 A6 n6 c6, e = .returned (.tuple #[.agg (y.row (.slice A5 n5 c5) (.slice A6 n6 c6)), .int .i64 ER, .int .i64 TR]) ∧ LdAt w' y (.slice A5 n5 c5) (.slice A6 n6 c6) ∧ Below W.heap.size W w' ∧ NewSl W s (.slice A5 n5 c5) ∧ NewSl W h (.slice A6 n6 c6) from by
          obtain ⟨s', h', e1, hl, r⟩ := hd
          rw [HY.out] at hl e1
          rw [HER.out, HTR.out] at e1
          obtain ⟨A5, n5, c5, A6, n6, c6, rfl, rfl, r1, r2⟩ := hl
          exact ⟨A5, n5, c5, A6, n6, c6, e1, ⟨_, _, _, _, _, _, rfl, rfl, r1, r2⟩, r⟩)))
        clear HRf HY HER HTR
        focus (go_upto_region 16 with (first
          | (refine Blk.load rfl 68 (.tmp 10) rfl _ _ _ _ rfl X1.out Try.underlying68 rfl (by kernel_rfl) ?_)
          | (go_at_call 32; refine HDo2.out.mono ?_; rintro e v2 ⟨p2, rfl, hres⟩; have X2 := Lib.hid (X1.out.upd hres.upd (fun hf => by have := HFl.out _ hf; omega)); obtain ⟨F4, hm2⟩ := I1.out.step hres; have M2 := Lib.hid hm2; clear hres hm2 k0 k1 k2 k3 k4 k5 k6 k7 k8 k9 k10 k11 k12 k13)
          | (refine Blk.load rfl 53 (.tmp 2) rfl _ _ _ _ rfl M2.out.cb Try.underlying53 rfl (by kernel_rfl) ?_)
          | (refine Blk.load rfl 64 (.tmp 7) rfl _ _ _ _ rfl M2.out.xb Try.underlying64 rfl (by kernel_rfl) ?_)
          | (refine Blk.load rfl 68 (.tmp 10) rfl _ _ _ _ rfl X2.out Try.underlying68 rfl (by kernel_rfl) ?_)
          | (go_at_call 33; refine (HRf2.out _ _ _ M2.out.ld).mono ?_; rintro e v3 ⟨A5, n5, c5, A6, n6, c6, rfl, hl3, hb3, hn3, hn4⟩; have L3 := Lib.hid hl3; have B3 := Lib.hid hb3; have N3 := Lib.hid hn3; have N4 := Lib.hid hn4; have X3 := Lib.hid (X2.out.call hb3); have M3 := Lib.hid (M2.out.call hb3); clear hl3 hb3 hn3 hn4)))
        have Y3 := Lib.hid (Blk.new v3 ldT (y.row (.slice A5 n5 c5) (.slice A6 n6 c6)))
        have M4 := Lib.hid (M3.out.call ((Below.refl _ v3).alloc (Nat.le_refl _) (.cells (y.row (.slice A5 n5 c5) (.slice A6 n6 c6)) ldT)))
        have X4 := Lib.hid (X3.out.alloc (.cells (y.row (.slice A5 n5 c5) (.slice A6 n6 c6)) ldT))
        have L4 := Lib.hid (L3.out.call ((Below.refl _ v3).alloc (Nat.le_refl _) (.cells (y.row (.slice A5 n5 c5) (.slice A6 n6 c6)) ldT)))
        have B4 := Lib.hid (B3.out.trans (((Below.refl _ v3).alloc (Nat.le_refl _) (.cells (y.row (.slice A5 n5 c5) (.slice A6 n6 c6)) ldT)).mono B3.out.size))
        have HGx := Lib.hid HI.out.xb.lt
        have HGy := Lib.hid M3.out.xb.lt
        clear M3 X3 L3 B3 HDo2 HRf2 I1 X1 HI X2
        generalize v3.alloc (.cells (y.row (.slice A5 n5 c5) (.slice A6 n6 c6)) ldT) = v5 at *
        generalize v3.heap.size = gy at *
        generalize wr.heap.size = ga at *
        have y9 := Y3.out.cellv (i := 9) (v := .int .i64 y.ver) rfl
        have x9 := M4.out.xb.cellv (i := 9) (v := .int .i64 x.ver) rfl
        have a0 := X4.out.cellv (i := 0) (v := .int .i64 a.kind) rfl
        have fin : ∀ (w9 : World), Blk w9 gx ldT (y.row (.slice A5 n5 c5) (.slice A6 n6 c6)) → v5.grownBy w9 (some gx) → Blk v5 ga acT a.row → Hid (PlI w w9 gx c y (.slice A5 n5 c5) (.slice A6 n6 c6) p2 F4 fr2 ∧ (ga ≠ gx → Blk w9 ga acT a.row)) := fun w9 hx hg ha => Lib.hid ⟨M2.out.next L4.out B4.out N3.out N4.out hx hg, fun hne => ha.grown hg (by intro e; injection e with e; exact hne e)⟩
        have HFin := Lib.hid fin
        clear fin
        rcases hcs with ⟨b1, b2, b3, rfl⟩ | ⟨b1, b2, b3, rfl⟩ | ⟨b1, b2, rfl⟩ | ⟨b1, b2, b3, rfl⟩
        all_goals
          focus (go_upto_region 20 with (fail))
          clear b1 b2 y9 x9
          refine wp_region_any (by kernel_rfl) ?_; change wpAny _ _ _ _ _ _ _ (World.drew v5); refine any_of_anyG (late := fun _ => false) (S := fun wS => Upd (fun k => k = gx) v5 wS) _ _ _ _ ?_
          have S0 := (Upd.refl (fun k => k = gx) v5).drew
          refine anyG_takes (is := [0, 1, 2]) (vs := [_, _, .pointer p2]) (m := 1) (listed2 := #[true, true, true, false]) (a2 := ⟨#[_, _, _, _, _, _, _, _, _, _, _, _, _, _, _, _, _, _, _, _, _, _, _, _, _, _, _, _, _, _, _, _, _, _, _, _, _, _, _, _, _, _, _, _, _, _, _, _, _, _, _, _, _, _, _, _, _, _, _, _, _, _, _, _, _, _, _, _, _, _, _, _, _, _, _, _, _, _, _, _, _, _, _, _, _, _, _, _, _, _, _, _, _, _, _, _, _, _, _, _, _, _, _, _, _, _, _, _, _, _, _, _], _⟩) (by kernel_rfl) (fun j hj => by simp at hj) (by kernel_rfl) (fun _ _ _ _ _ h => h) (Ys.cons rfl (Or.inl ⟨by rfl, fun W1 hW1 => by first | rfl | (go_simp; done) | (go_simp; with_reducible rfl)⟩) (Ys.cons rfl (Or.inl ⟨by rfl, fun W1 hW1 => exec_load (ty := 64) (x := .tmp 14) rfl rfl (run_loadAt_blk _ _ _ _ _ _ (Y3.out.upd hW1 (by show ¬ gy = gx; have := HGy.out; omega)) Try.underlying64 rfl (by first | kernel_rfl | exact info_num _))⟩) (Ys.cons rfl (Or.inl ⟨by rfl, fun W1 hW1 => by rfl⟩) (Ys.nil)))) (S0) (by rfl) (by rfl) ?_
          refine anyG_one (k := 3) (by kernel_rfl) rfl (by rfl) (fun Q2 hQ2 => ?_); go_wp2_with (refine wpList_store_row rfl 64 (.tmp 7) (.tmp 85) rfl gx _ _ _ rfl rfl M4.out.xb.drew (by rfl) (by kernel_rfl) (row_one _ _ _ _ _ _ _) ?_; intro w9 hb9 hg9); refine hQ2 _ _ (fun _ => (S0).grown hg9 (fun k e => by injection e with e; exact .inl e.symm)) ?_; clear hQ2 Q2
          have S9 := (S0).grown hg9 (fun k e => by injection e with e; exact .inl e.symm)
          refine anyG_done (by kernel_rfl) ?_ _
          have P9 := HFin.out w9 hb9 ⟨hg9.os, hg9.tape, hg9.output, hg9.size, hg9.block⟩ X4.out
          have a9 := (P9.out.2 (by have := HGx.out; omega)).cellv (i := 0) (v := .int .i64 a.kind) rfl
          have HT9 := Lib.hid (HTo.out p2 _ _ w9 (tells_node P9.out.1.nd) P9.out.1.ld)
          have HF9 := Lib.hid (fun W hb => node_Frozen p2 F4 c y _ W (P9.out.1.nd.call hb))
          clear hb9 hg9 a0 Y3 M4 X4 L4 B4
          have z0 := P9.out.1.xb.cellv (i := 0) (v := .slice A5 n5 c5) rfl
          have z1 := P9.out.1.xb.cellv (i := 1) (v := .slice A6 n6 c6) rfl
          have z2 := P9.out.1.xb.cellv (i := 2) (v := .int .i64 y.pol.min) rfl
          have z3 := P9.out.1.xb.cellv (i := 3) (v := .int .i64 y.pol.max) rfl
          have z4 := P9.out.1.xb.cellv (i := 4) (v := .int .i64 y.pol.target) rfl
          have z5 := P9.out.1.xb.cellv (i := 5) (v := .int .i64 y.pol.tol) rfl
          have z6 := P9.out.1.xb.cellv (i := 6) (v := .int .i64 y.pol.window) rfl
          have z7 := P9.out.1.xb.cellv (i := 7) (v := .int .i64 y.pol.hold) rfl
          have z8 := P9.out.1.xb.cellv (i := 8) (v := .bool y.ruled) rfl
          have z9 := P9.out.1.xb.cellv (i := 9) (v := .int .i64 y.ver) rfl
          by_cases h1 : a.kind = 1
          · obtain rfl := HGN.out h1
            have d1 : (a.kind == 1) = true := by simpa using h1
            clear h1 HGN
            go_wp2_with (first
              | (refine Blk.load rfl 64 (.tmp 7) rfl _ _ _ _ rfl P9.out.1.xb Try.underlying64 rfl (by kernel_rfl) ?_)
              | (go_at_call 34; refine HT9.out.mono ?_; rintro e w10 ⟨rfl, hb10⟩; have B10 := Lib.hid hb10; clear hb10)
              | (go_at_call 35; refine (HF9.out _ B10.out).mono ?_; rintro e w11 ⟨rfl, rfl⟩))
            go_roundw
            case rel => exact ⟨k + 1, p2, F4, y, _, _, _, by omega, by go_num, rfl, rfl, HNx.out, P9.out.1.call B10.out⟩
            case measure => simp [intOf]; omega
          · have d1 : (a.kind == 1) = false := by simpa using h1
            clear h1 HGN
            go_wp2_with (first
              | (refine Blk.load rfl 64 (.tmp 7) rfl _ _ _ _ rfl P9.out.1.xb Try.underlying64 rfl (by kernel_rfl) ?_)
              | (go_at_call 34; refine HT9.out.mono ?_; rintro e w10 ⟨rfl, hb10⟩; have B10 := Lib.hid hb10; clear hb10)
              | (go_at_call 35; refine (HF9.out _ B10.out).mono ?_; rintro e w11 ⟨rfl, rfl⟩))
            go_roundw
            case rel => exact ⟨k + 1, p2, F4, y, _, _, _, by omega, by go_num, rfl, rfl, HNx.out, P9.out.1.call B10.out⟩
            case measure => simp [intOf]; omega
      · obtain rfl : k = len := by omega
        go_wp2
        go_ret
        exact ⟨rfl, HI.out.bel⟩
  · have HNw := Lib.hid (fun W => node_New_no c W hf hok)
    rw [decide_eq_false hok] at HRt
    rw [show cfgErr c = 1 from if_neg hok] at HNr
    clear hok hf
    go_enter Try.func7, Try.ntmps7
    go_wp2_with (first
      | (go_at_call 28; refine (awake17 _).mono ?_; rintro e v1 ⟨rfl, hb1⟩; have E1 := Lib.hid (E0.out.trans (hb1.mono E0.out.size)); have C1 := Lib.hid (C0.out.call hb1); have q0 := C1.out.cellv (i := 0) (v := .int .i64 c.str) rfl; have q1 := C1.out.cellv (i := 1) (v := .int .i64 c.smp) rfl; have q2 := C1.out.cellv (i := 2) (v := .int .i64 c.lod) rfl; have q3 := C1.out.cellv (i := 3) (v := .int .i64 c.his) rfl; clear hb1)
      | (go_at_call 29; refine (HNw.out _).mono ?_; rintro e v2 ⟨rfl, hb2⟩; have E2 := Lib.hid (E1.out.trans (hb2.mono E1.out.size)); have C2 := Lib.hid (C1.out.call hb2); have r0 := C2.out.cellv (i := 0) (v := .int .i64 c.str) rfl; have r1 := C2.out.cellv (i := 1) (v := .int .i64 c.smp) rfl; have r2 := C2.out.cellv (i := 2) (v := .int .i64 c.lod) rfl; have r3 := C2.out.cellv (i := 3) (v := .int .i64 c.his) rfl; clear hb2 q0 q1 q2 q3)
      | (go_at_call 30; refine (HRt.out _).mono ?_; rintro e v3 ⟨rfl, hb3⟩; have E3 := Lib.hid (E2.out.trans (hb3.mono E2.out.size)); have C3 := Lib.hid (C2.out.call hb3); have s0 := C3.out.cellv (i := 0) (v := .int .i64 c.str) rfl; have s1 := C3.out.cellv (i := 1) (v := .int .i64 c.smp) rfl; have s2 := C3.out.cellv (i := 2) (v := .int .i64 c.lod) rfl; have s3 := C3.out.cellv (i := 3) (v := .int .i64 c.his) rfl; clear hb3 r0 r1 r2 r3)
      | (go_at_call 31; refine (HNr.out _).mono ?_; rintro e v4 ⟨rfl, hb4⟩; have E4 := Lib.hid (E3.out.trans (hb4.mono E3.out.size)); have C4 := Lib.hid (C3.out.call hb4); have u0 := C4.out.cellv (i := 0) (v := .int .i64 c.str) rfl; have u1 := C4.out.cellv (i := 1) (v := .int .i64 c.smp) rfl; have u2 := C4.out.cellv (i := 2) (v := .int .i64 c.lod) rfl; have u3 := C4.out.cellv (i := 3) (v := .int .i64 c.his) rfl; clear hb4 s0 s1 s2 s3)
      | (go_at_call 31; refine (HNr.out _).mono ?_; rintro e v5 ⟨rfl, hb5⟩; have E5 := Lib.hid (E4.out.trans (hb5.mono E4.out.size)); clear hb5 u0 u1 u2 u3))
    go_ret
    exact ⟨rfl, E5.out⟩
end Go.Proofs.Ytfeccjjheiillaa
