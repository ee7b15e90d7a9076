/- Several texts in one. -/
import Derived.Test.YtjodpffdlggjgaaSer4
import Derived.Test.YtjodpffdlggjgaaSlib3
import Derived.Test.YtjodpffdlggjgaaSerP
import Derived.BigQuiet
import Derived.Test.YtjodpffdlggjgaaTrial
/- Package series: Put of a new tick. (fast region) -/
namespace Go.Proofs.Ytjodpffdlggjgaa
open Go.RowKit
set_option linter.unusedSimpArgs false
set_option linter.unusedVariables false
set_option maxHeartbeats 4000000
set_option maxRecDepth 100000
theorem SerAt.drewN_ {w : World} {g : Nat} {v : Value} {l : List Smp} {room : Int} (h : SerAt w g v l room) (n : Nat) : SerAt (w.drewN n) g v l room := h
def insq (l : List Smp) (room tick value : Int) : List Smp := if room.toNat < l.length + 1 then (l.take (placeq l tick) ++ ⟨tick, value⟩ :: l.drop (placeq l tick)).drop 1 else l.take (placeq l tick) ++ ⟨tick, value⟩ :: l.drop (placeq l tick)
theorem series_Put_ins (g : Nat) (v : Value) (l : List Smp) (room tick value : Int) (w : World) (h : SerAt w g v l room) (hs : Srt l) (hn : l.length ≤ 10000) (he : serErr tick value = 0) (hr : 1 ≤ room) (hlr : l.length ≤ room.toNat)
    (hy : ∀ y, l[placeq l tick]? = some y → y.tick ≠ tick) :
    Calls Try.prog 19 #[.pointer (some ⟨g, 0, none⟩), .int .i64 tick, .int .i64 value] w (SerPost g v (insq l room tick value) room w (.int .i64 0)) := by
  have HC := Lib.hid (series_Right tick value w)
  rw [he] at HC
  have HS := Lib.hid h
  have HP := Lib.hid (series_place g v l room tick w h hs (by omega))
  have hKl := place_le l tick
  have hlen : (l.take (placeq l tick) ++ (⟨tick, value⟩ : Smp) :: l.drop (placeq l tick)).length = l.length + 1 := by simp; omega
  obtain ⟨A, n, c, rfl, hnl, hsl⟩ := h.2.1.shape smp_len
  have hfd : ∀ W, SerAt W g (.slice A n c) l room → W.cell? ⟨g, 0, none⟩ = some (.slice A n c) ∧ W.cell? ⟨g, 1, none⟩ = some (.int .i64 room) := fun W hW => ⟨hW.1.cellv rfl, hW.1.cellv rfl⟩
  have HF := Lib.hid hfd
  have d1 : (room == 0) = false := by simp; omega
  have HL := Lib.hid hnl
  have HN := Lib.hid hn
  have HKl := Lib.hid hKl
  have HR := Lib.hid hlr
  have HLen := Lib.hid hlen
  have HI := Lib.hid (show insq l room tick value = if room.toNat < l.length + 1 then (l.take (placeq l tick) ++ (⟨tick, value⟩ : Smp) :: l.drop (placeq l tick)).drop 1 else l.take (placeq l tick) ++ (⟨tick, value⟩ : Smp) :: l.drop (placeq l tick) from rfl)
  have HY : Hid (placeq l tick < n → ∃ (b : Nat) (y : Smp), A = some ⟨b, 0, none⟩ ∧ y.tick ≠ tick ∧ ∀ W, SerAt W g (.slice A n c) l room → W.cell? ⟨b, placeq l tick * 2, none⟩ = some (.int .i64 y.tick)) := fun hk => by
    obtain ⟨b, off, y, rfl, hy', hb, u0, u1⟩ := SmpsAre.at_ hsl hk
    have h0 : off = 0 := by
      rcases h.2.1.2 with ⟨e, _⟩ | ⟨b', cap, cur, e, _⟩
      · cases e
      · cases e; rfl
    subst h0
    refine ⟨b, y, rfl, hy y hy', fun W hW => ?_⟩
    obtain ⟨A2, n2, c2, he2, hn2, hs2⟩ := hW.2.1.shape smp_len
    cases he2
    obtain ⟨b2, off2, y2, hA2, hy2, _, k0, _⟩ := SmpsAre.at_ hs2 hk
    cases hA2
    rw [hy'] at hy2
    cases hy2
    rw [Nat.zero_add] at k0
    exact k0
  have hnc : n ≤ c := hsl.2.1
  have hcm : c ≤ 9223372036854775807 := by have := hsl.2.2.1; unfold maxLen at this; omega
  have hn2 : n ≤ 10000 := by omega
  have hg := h.1.lt
  have c3 := (hfd w h).1
  have c4 := (hfd w h).2
  clear h hs hn he hy hsl hnl hKl hlr hlen hfd
  generalize placeq l tick = K at *
  generalize insq l room tick value = RES at *
  generalize hLq : l.take K ++ (⟨tick, value⟩ : Smp) :: l.drop K = L at *
  have HLq := Lib.hid hLq
  clear hLq
  go_enter Try.func19, Try.ntmps19
  go_wp2_with (go_at_call 20; refine HC.out.mono ?_; rintro e w1 ⟨rfl, rfl⟩)
  clear c3 c4
  refine HP.out.mono ?_
  rintro e w1 ⟨rfl, hb1⟩
  have S2 := Lib.hid ((HS.out.call hb1).call (w' := w1.alloc (.cells #[.int .i64 tick, .int .i64 value] 35)) ((Below.refl _ w1).alloc (Nat.le_refl _) _))
  have U2 := Lib.hid (hb1.alloc hb1.size (.cells #[.int .i64 tick, .int .i64 value] 35))
  have X2 := Lib.hid ((HS.out.call hb1).2.1.ne_new (Nat.le_refl _))
  have X1 := Lib.hid (Blk.new w1 35 #[.int .i64 tick, .int .i64 value])
  clear hb1
  have c3 := (HF.out _ S2.out).1
  by_cases hlt : K < n
  rotate_left
  have d0 : decide ((K : Int) < (n : Int)) = false := by simp; omega
  focus (go_upto_region 10 with (fail))
  clear d0 hlt c3
  rotate_left
  obtain ⟨b, y, rfl, hyt, hcl⟩ := HY.out hlt
  have t0 := hcl _ S2.out
  have d0 : decide ((K : Int) < (n : Int)) = true := by simp; omega
  have d2 : (y.tick == tick) = false := by simpa using hyt
  have hk1 : (K : Int) < (n : Int) := by omega
  clear hcl hyt
  focus (go_upto_region 10 with (fail))
  clear t0 d0 hlt d2 hk1 c3
  generalize (some (⟨b, 0, none⟩ : Addr)) = A at *
  all_goals
    clear HY HC HP hnc d1
    generalize w1.alloc (.cells #[.int .i64 tick, .int .i64 value] 35) = w2 at *
    generalize w1.heap.size = gx at *
    refine wp_region_any (by kernel_rfl) ?_; change wpAny _ _ _ _ _ _ _ (World.drew w2); refine any_of_anyG (late := fun j => [11].contains j) (S := fun wS => Upd (fun k => (Value.slice A n c).ownBlock = some k) w2 wS) _ _ _ _ ?_
    have S0 := (Upd.refl (fun k => (Value.slice A n c).ownBlock = some k) w2).drew
    refine anyG_takes (is := [0, 1, 2, 3, 4]) (vs := [_, _, _, _, .slice A n c]) (m := 7) (listed2 := #[true, true, true, true, true, false, false, false, false, false, false, false]) (a2 := ⟨#[_, _, _, _, _, _, _, _, _, _, _, _, _, _, _, _, _, _, _, _, _, _, _, _, _, _, _, _, _, _, _, _, _, _, _, _, _, _, _, _, _, _, _, _, _, _, _, _, _, _, _, _, _, _, _, _, _, _, _, _, _, _, _, _, _, _, _, _, _, _, _, _, _, _, _, _, _, _, _, _, _, _, _, _, _, _], _⟩) (by kernel_rfl) (fun j hj => by first | (simp at hj; done) | (simp at hj; simp; omega)) (by kernel_rfl) (fun _ _ _ _ _ h => h) (Ys.cons rfl (Or.inl ⟨by rfl, fun W1 hW1 => by first | rfl | (go_simp; done) | (go_simp; with_reducible rfl)⟩) (Ys.cons rfl (Or.inl ⟨by rfl, fun W1 hW1 => by first | rfl | (go_simp; done) | (go_simp; with_reducible rfl)⟩) (Ys.cons rfl (Or.inl ⟨by rfl, fun W1 hW1 => by first | rfl | (go_simp; done) | (go_simp; with_reducible rfl)⟩) (Ys.cons rfl (Or.inl ⟨by rfl, fun W1 hW1 => by first | rfl | (go_simp; done) | (go_simp; with_reducible rfl)⟩) (Ys.cons rfl (Or.inl ⟨by rfl, fun W1 hW1 => by have c := (S2.out.1.upd hW1 (fun e => S2.out.2.2 e)).cellv (i := 0) (v := .slice A n c) rfl; go_simp⟩) (Ys.nil)))))) (S0) (by rfl) (by rfl) ?_
    refine anyG_takes (is := [5, 6]) (vs := [_, _]) (m := 5) (listed2 := #[true, true, true, true, true, true, true, false, false, false, false, false]) (a2 := ⟨#[_, _, _, _, _, _, _, _, _, _, _, _, _, _, _, _, _, _, _, _, _, _, _, _, _, _, _, _, _, _, _, _, _, _, _, _, _, _, _, _, _, _, _, _, _, _, _, _, _, _, _, _, _, _, _, _, _, _, _, _, _, _, _, _, _, _, _, _, _, _, _, _, _, _, _, _, _, _, _, _, _, _, _, _, _, _], _⟩) (by kernel_rfl) (fun j hj => by first | (simp at hj; done) | (simp at hj; simp; omega)) (by kernel_rfl) (fun _ _ _ _ _ h => h) (Ys.cons rfl (Or.inl ⟨by rfl, fun W1 hW1 => by first | rfl | (go_simp; done) | (go_simp; with_reducible rfl)⟩) (Ys.cons rfl (Or.inl ⟨by rfl, fun W1 hW1 => exec_load (ty := 35) (x := .tmp 9) rfl rfl (run_loadAt_blk _ _ _ _ _ _ (X1.out.upd hW1 (fun e => X2.out e)) Try.underlying35 rfl (by first | kernel_rfl | exact info_num _))⟩) (Ys.nil))) (S0) (by rfl) (by rfl) ?_
    refine anyG_one (k := 7) (by kernel_rfl) rfl (by rfl) (fun Q2 hQ2 => ?_)
    have nG := new_atU (S := S0) (#[.int .i64 tick, .int .i64 value]) 35
    obtain ⟨G, hG, bG, lG⟩ := nG
    go_wp2_with fail
    refine hQ2 _ _ (fun _ => S0.alloc _) ?_
    clear hQ2 Q2
    (try simp only [hG])
    clear hG
    have SG := S0.alloc (.cells (#[.int .i64 tick, .int .i64 value]) 35)
    refine anyG_one (k := 8) (by kernel_rfl) rfl (by rfl) (fun Q2 hQ2 => ?_); go_wp2_with (go_at_call 58; refine (slices_Insert _ l K G ⟨tick, value⟩ _ (S2.out.2.1.drew_.alloc _) (by have := HN.out; omega) HKl.out (Nat.zero_le _) bG (S2.out.2.1.ne_new lG)).mono ?_; rintro e w3 ⟨v', rfl, ho3, hw3, hu3⟩; obtain ⟨A', n', c', rfl, hn', -⟩ := ho3.shape smp_len; have HN' := Lib.hid hn'; clear hn'; obtain ⟨p1, p2, p3, p4, p5⟩ := SerAt.put (S2.out.call ((Below.refl _ _).drew.alloc (Nat.le_refl _) _)) hu3 ho3 (hw3.imp id (fun e => ⟨_, e, Nat.le_refl _⟩)); have P1 := Lib.hid p1; have P2 := Lib.hid p2; have P3 := Lib.hid p3; clear p1 p2 p3); refine hQ2 _ _ (fun _ => SG.trans hu3 (fun k hk => .inl hk)) ?_; clear hQ2 Q2
    have S3 := SG.trans hu3 (fun k hk => .inl hk)
    refine anyG_one (k := 9) (by kernel_rfl) rfl (by rfl) (fun Q2 hQ2 => ?_); go_wp2_with fail; refine hQ2 _ _ (fun _ => S3) ?_; clear hQ2 Q2
    refine anyG_takes (is := [10]) (vs := [_]) (m := 1) (listed2 := #[true, true, true, true, true, true, true, true, true, true, true, false]) (a2 := ⟨#[_, _, _, _, _, _, _, _, _, _, _, _, _, _, _, _, _, _, _, _, _, _, _, _, _, _, _, _, _, _, _, _, _, _, _, _, _, _, _, _, _, _, _, _, _, _, _, _, _, _, _, _, _, _, _, _, _, _, _, _, _, _, _, _, _, _, _, _, _, _, _, _, _, _, _, _, _, _, _, _, _, _, _, _, _, _], _⟩) (by kernel_rfl) (fun j hj => by first | (simp at hj; done) | (simp at hj; simp; omega)) (by kernel_rfl) (fun _ _ _ _ _ h => h) (Ys.cons rfl (Or.inl ⟨by rfl, fun W1 hW1 => by first | rfl | (go_simp; done) | (go_simp; with_reducible rfl)⟩) (Ys.nil)) (S3) (by rfl) (by rfl) ?_
    refine anyG_of_any _ _ _ _ (by kernel_rfl) ?_
    refine any_one (k := 11) (by kernel_rfl) rfl (by rfl) (fun Q2 hQ2 => ?_); go_wp2_with fail; (try refine hQ2 _ _ ?_); (try clear hQ2 Q2)
    refine wpAny_done (by kernel_rfl) ?_ _
    have hq : n' = l.length + 1 := by rw [HN'.out, HLq.out]; exact HLen.out
    have Q1 := Lib.hid (HLq.out ▸ P1.out)
    have Q2 := Lib.hid ((Upd.of_below (S := foot g (Value.slice A n c)) (U2.out.trans (((Below.refl _ w2).drew.alloc (Nat.le_refl _) (.cells #[.int .i64 tick, .int .i64 value] 35)).mono U2.out.size))).trans P2.out (fun k hk => .inl hk))
    have Q3 := Lib.hid (fun k hk => (P3.out k hk).imp id (fun h => Nat.le_trans (Nat.le_trans U2.out.size ((Below.refl w2.heap.size w2).drew.alloc (Nat.le_refl _) (.cells #[.int .i64 tick, .int .i64 value] 35)).size) h))
    have e0 := Q1.out.1.cellv (i := 0) (v := .slice A' n' c') rfl
    have e1 := Q1.out.1.cellv (i := 1) (v := .int .i64 room) rfl
    have ef := Q1.out.1.frozen 0
    clear P1 P2 P3 hu3 ho3 hw3 HN' p4 p5 S3 SG bG lG S0 HF HS S2 U2 X1 X2 HLq
    generalize w3.setCell ⟨g, 0, none⟩ (.slice A' n' c') = w5 at *
    have hn' : n' ≤ 10001 := by have := HN.out; omega
    by_cases hov : room.toNat < l.length + 1
    · have HE := Lib.hid (show RES = L.drop 1 by rw [HI.out, if_pos hov])
      have d1 : decide (room < (n' : Int)) = true := by simp; omega
      have hov2 : room < (n' : Int) := by omega
      have H1 := Lib.hid (show 1 ≤ L.length by rw [HLen.out]; omega)
      have HL2 := Lib.hid (show L.length ≤ 100000 by rw [HLen.out]; have := HN.out; omega)
      clear hq hov HN HR HL HLen HI
      go_wp2
      go_quiet (fail)
      go_wp2_with fail
      refine (slices_Delete (base := 0) (.slice A' n' c') L 1 _ (Own.drewN_ Q1.out.2.1 _) HL2.out H1.out).mono ?_
      rintro e w6 ⟨v6, rfl, ho6, hv6, hu6⟩
      obtain ⟨A6, n6, c6, rfl, -, -⟩ := ho6.shape smp_len
      obtain ⟨p1, p2, p3, p4, p5⟩ := SerAt.put (SerAt.drewN_ Q1.out _) hu6 ho6 (.inl hv6)
      have P1 := Lib.hid p1
      have P2 := Lib.hid p2
      have P3 := Lib.hid p3
      clear p1 p2 p3 ho6 hv6 hu6 e0 e1 ef
      go_wp2
      go_ret
      refine ⟨_, rfl, HE.out ▸ P1.out, (Upd.drewN_ Q2.out _).trans (P2.out) ?_, ?_⟩
      · exact fun k hk => Q3.out k hk
      · exact fun k hk => (P3.out k hk).elim (fun h => Q3.out k h) (fun h => .inr (Nat.le_trans Q2.out.size h))
    · have HE := Lib.hid (show RES = L by rw [HI.out, if_neg hov])
      have d1 : decide (room < (n' : Int)) = false := by simp; omega
      have hov2 : ¬ room < (n' : Int) := by omega
      clear hq hov HN HR HL HLen HI
      go_wp2
      go_quiet (fail)
      go_wp2
      go_ret
      exact ⟨_, rfl, SerAt.drewN_ (HE.out ▸ Q1.out) _, Upd.drewN_ Q2.out _, fun k hk => Q3.out k hk⟩
end Go.Proofs.Ytjodpffdlggjgaa
/- The reference's series: Right, Trim, Put. -/
namespace Go.Proofs.Ytjodpffdlggjgaa
open Go.RowKit
set_option linter.unusedSimpArgs false
set_option linter.unusedVariables false
set_option maxHeartbeats 4000000
set_option maxRecDepth 100000
theorem ref08_Right (tick value : Int) (w : World) :
    Calls Try.prog 18 #[.int .i64 tick, .int .i64 value] w fun e w' => e = .returned (.int .i64 (serErr tick value)) ∧ w = w' := by
  by_cases h1 : tick < 0
  · rw [serErr_tick h1]
    go_enter Try.func18, Try.ntmps18
    go_wp2
    go_ret
    exact ⟨rfl, rfl⟩
  · by_cases h2 : value < 0
    · rw [serErr_value (by omega) h2]
      go_enter Try.func18, Try.ntmps18
      go_wp2
      go_ret
      exact ⟨rfl, rfl⟩
    · rw [serErr_ok (by omega) (by omega)]
      go_enter Try.func18, Try.ntmps18
      go_wp2
      go_ret
      exact ⟨rfl, rfl⟩
theorem froms_yes {l : List Smp} {t : Int} {k : Nat} {x : Smp} (h : l[k]? = some x) (h1 : t ≤ x.tick) : froms (l.take (k + 1)) t = froms (l.take k) t ++ [x] := by
  rw [take_snoc2 h]; unfold froms; rw [List.filter_append]; simp [h1]
theorem froms_no {l : List Smp} {t : Int} {k : Nat} {x : Smp} (h : l[k]? = some x) (h1 : ¬ t ≤ x.tick) : froms (l.take (k + 1)) t = froms (l.take k) t := by
  rw [take_snoc2 h]; unfold froms; rw [List.filter_append]; simp; omega
theorem ref08_Trim (A : Option Addr) (len cap : Nat) (l : List Smp) (cut : Int) (w : World) (hs : SmpsAre w A len cap l) (hn : len ≤ 10000) :
    Calls Try.prog 16 #[.slice A len cap, .int .i64 cut] w (CloneS w (froms l cut)) := by
  have HS := Lib.hid hs
  have HL := Lib.hid hs.1
  clear hs
  go_enter Try.func16, Try.ntmps16
  go_wp2
  go_loopw [5, 6] (fun v i wr => ∃ k : Nat, k ≤ len ∧ i = .int .i64 k ∧ OwnS wr w.heap.size v (froms (l.take k) cut) ∧ Below w.heap.size w wr) (fun _ i _ => len - (intOf i).toNat)
  case atStart => exact ⟨0, Nat.zero_le _, rfl, Own.nil _ _ _ _ _, Below.refl _ _⟩
  case round =>
    obtain ⟨k, hk, rfl, hown, hbel⟩ := hrel
    by_cases hlt : k < len
    · obtain ⟨b, off, x, rfl, hx, hb, t0, t1⟩ := HS.out.at_ hlt
      have kt0 := (hbel.cell (p := ⟨b, off + k * 2, none⟩) hb).trans t0
      have kt1 := (hbel.cell (p := ⟨b, off + k * 2 + 1, none⟩) hb).trans t1
      have hle : (froms (l.take k) cut).length < 1000000 := by
        have h1 : (froms (l.take k) cut).length ≤ (l.take k).length := List.length_filter_le _ _
        have h2 : (l.take k).length ≤ l.length := by rw [List.length_take]; omega
        have h3 := HL.out
        omega
      have hki : (k : Int) < (len : Int) := by omega
      have HX := Lib.hid hx
      have HB := Lib.hid hbel
      clear hx hb t0 t1
      by_cases h1 : cut ≤ x.tick
      · have HN := Lib.hid (froms_yes HX.out h1)
        have hsz := hbel.size
        clear hbel
        go_wp2_with (at_builtin; refine push_smp _ rfl _ _ rfl w.heap.size _ _ rfl (hown.alloc _) wr.heap.size _ 1 x rfl (Blk.new wr _ _) hle (by simp; omega) ?_; intro v2 w2 ho2 hb2 hg2)
        go_roundw
        case rel => exact ⟨k + 1, by omega, by go_num, by rw [HN.out]; exact ho2, (HB.out.alloc HB.out.size _).trans hb2⟩
        case measure => simp [intOf]; omega
      · have HN := Lib.hid (froms_no HX.out h1)
        clear hbel
        go_wp2
        go_roundw
        case rel => exact ⟨k + 1, by omega, by go_num, by rw [HN.out]; exact hown, HB.out⟩
        case measure => simp [intOf]; omega
    · have hE : l.take k = l := List.take_of_length_le (by have := HL.out; omega)
      have HO := Lib.hid hown
      have HB := Lib.hid hbel
      rw [hE] at HO
      clear hE hown hbel
      go_wp2
      go_ret
      exact CloneS.mk HO.out HB.out
/-- What a Put of the reference's keeps: all that there was, and its own x. -/
def RS (w : World) (x : Smp) (wr : World) : Prop := Below w.heap.size w wr ∧ Blk wr w.heap.size 35 #[.int .i64 x.tick, .int .i64 x.value]
theorem RS.start (w : World) (x : Smp) : RS w x (w.alloc (.cells #[.int .i64 x.tick, .int .i64 x.value] 35)) := ⟨by go_grown, Blk.new _ _ _⟩
theorem RS.lt {w wr : World} {x : Smp} (h : RS w x wr) : w.heap.size + 1 ≤ wr.heap.size := h.2.lt
theorem RS.drewN {w wr : World} {x : Smp} (h : RS w x wr) (n : Nat) : RS w x (wr.drewN n) := ⟨below_drewN h.1 n, h.2⟩
theorem RS.push {w wr w2 : World} {x : Smp} (h : RS w x wr) (o : Obj) (hb : Below (w.heap.size + 1) (wr.alloc o) w2) : RS w x w2 :=
  ⟨(h.1.alloc h.1.size o).trans (hb.mono (by omega)), (h.2.alloc o).below hb (by omega)⟩
theorem RS.facts {w wr : World} {x : Smp} (h : RS w x wr) {b o : Nat} {v : Value} (hb : b < w.heap.size) (hc : w.cell? ⟨b, o, none⟩ = some v) : wr.cell? ⟨b, o, none⟩ = some v := (h.1.cell (p := ⟨b, o, none⟩) hb).trans hc
theorem RS.x0 {w wr : World} {x : Smp} (h : RS w x wr) : wr.cell? ⟨w.heap.size, 0, none⟩ = some (.int .i64 x.tick) ∧ wr.cell? ⟨w.heap.size, 1, none⟩ = some (.int .i64 x.value) := ⟨h.2.cellv rfl, h.2.cellv rfl⟩
def PutS (w : World) (l : List Smp) (e : Ending) (w' : World) : Prop := ∃ A n c, e = .returned (.slice A n c) ∧ SmpsAre w' A n c l ∧ Below w.heap.size w w' ∧ (∀ a, A = some a → w.heap.size ≤ a.block ∧ a.block < w'.heap.size)
theorem slice_tail {w : World} {base h n c : Nat} {y : Smp} {l : List Smp} (ho : OwnS w base (.slice (some ⟨h, 0, none⟩) n c) (y :: l)) : (c = 1 → l = []) ∧ (c ≠ 1 → SmpsAre w (some ⟨h, 2, none⟩) (n - 1) (c - 1) l) ∧ (l = [] → SmpsAre w (some ⟨h, 0, none⟩) (n - 1) (c - 1) l) := by
  have hs := ho.is smp_len
  have hl := hs.1
  have hnc := hs.2.1
  simp only [List.length_cons] at hl
  refine ⟨fun hc => List.eq_nil_of_length_eq_zero (by omega), fun hc => ⟨by omega, by omega, by have := hs.2.2.1; omega, (fun h => by cases h), fun a ha => ?_⟩, fun hl0 => ⟨by rw [hl0]; simp; rw [hl0] at hl; simp at hl; omega, by omega, by have := hs.2.2.1; omega, (fun h => by cases h), fun a ha => ?_⟩⟩
  · cases ha
    obtain ⟨h1, h2⟩ := hs.2.2.2.2 _ rfl
    refine ⟨fun i x hi j v hj => ?_, fun _ => h2 (by omega)⟩
    have := h1 (i + 1) x (by simpa using hi) j v hj
    rw [Addr.add_lit] at this ⊢
    rw [show 2 + (i * 2 + j) = 0 + ((i + 1) * 2 + j) by omega]
    exact this
  · cases ha
    obtain ⟨h1, h2⟩ := hs.2.2.2.2 _ rfl
    exact ⟨fun i x hi j v hj => by rw [hl0] at hi; simp at hi, fun _ => h2 (by omega)⟩
end Go.Proofs.Ytjodpffdlggjgaa
/- The reference's series: Put. -/
namespace Go.Proofs.Ytjodpffdlggjgaa
open Go.RowKit
set_option linter.unusedSimpArgs false
set_option linter.unusedVariables false
set_option maxHeartbeats 4000000
set_option maxRecDepth 100000
theorem putq_cases (l : List Smp) (room : Nat) (x : Smp) : (room < (putL l x).length ∧ putq l room x = (putL l x).drop 1) ∨ (¬ room < (putL l x).length ∧ putq l room x = putL l x) := by
  unfold putq
  by_cases h : room < (putL l x).length
  · exact .inl ⟨h, if_pos h⟩
  · exact .inr ⟨h, if_neg h⟩
theorem putL_len (l : List Smp) (x : Smp) : (putL l x).length = (lows l x.tick).length + (highs l x.tick).length + 1 := by unfold putL; simp; omega
theorem putL_cons (l : List Smp) (x : Smp) : ∃ y T, putL l x = y :: T := by
  cases h : putL l x with
  | nil => have := putL_len l x; rw [h] at this; simp at this
  | cons y T => exact ⟨y, T, rfl⟩
theorem Own.some_ {α : Type} {w : World} {base e size : Nat} {cells : α → List Value} {v : Value} {l : List α} (h : Own w base e size cells v l) (hsz : ∀ x, (cells x).length = size) (hl : 0 < l.length) : ∃ g n c, v = .slice (some ⟨g, 0, none⟩) n c ∧ n = l.length := by
  rcases h.2 with ⟨rfl, hn⟩ | ⟨g, cap, cur, rfl, _⟩
  · omega
  · exact ⟨g, _, cap, rfl, rfl⟩
theorem ref08_Put (A : Option Addr) (len cap : Nat) (l : List Smp) (room : Nat) (x : Smp) (w : World) (hs : SmpsAre w A len cap l) (hn : len ≤ 10000) (hsrt : Srt l) (hroom : room ≤ 1000000) :
    Calls Try.prog 21 #[.slice A len cap, .int .i64 room, .agg #[.int .i64 x.tick, .int .i64 x.value]] w (PutS w (putq l room x)) := by
  have HS := Lib.hid hs
  have HL := Lib.hid hs.1
  have HSr := Lib.hid hsrt
  have HR := Lib.hid (show room ≤ 1000000 from hroom)
  have HQ := Lib.hid (putq_cases l room x)
  generalize putq l room x = Q at *
  clear hs hsrt
  go_enter Try.func21, Try.ntmps21
  go_wp2
  go_loopw [7, 8, 9] (fun v iv i wr => ∃ k : Nat, ∃ is : Bool, k ≤ len ∧ i = .int .i64 k ∧ iv = .bool is ∧ isIn l x.tick k = is ∧ OwnS wr (w.heap.size + 1) v (refOut l x k) ∧ RS w x wr) (fun _ _ i _ => len - (intOf i).toNat)
  case atStart => exact ⟨0, false, Nat.zero_le _, rfl, rfl, (out_zero l x).2, by rw [(out_zero l x).1]; exact Own.nil _ _ _ _ _, RS.start w x⟩
  case round =>
    obtain ⟨k, is, hk, rfl, rfl, hin, hown, hrs⟩ := hrel
    have HI := Lib.hid hin
    have HO := Lib.hid hown
    have R0 := Lib.hid hrs
    clear hin hown
    by_cases hlt : k < len
    · obtain ⟨b, off, y, rfl, hy, hb, t0, t1⟩ := HS.out.at_ hlt
      have HF := Lib.hid (fun wr (h : RS w x wr) => (⟨h.facts hb t0, h.facts hb t1, h.x0.1, h.x0.2⟩ : wr.cell? ⟨b, off + k * 2, none⟩ = some (.int .i64 y.tick) ∧ wr.cell? ⟨b, off + k * 2 + 1, none⟩ = some (.int .i64 y.value) ∧ wr.cell? ⟨w.heap.size, 0, none⟩ = some (.int .i64 x.tick) ∧ wr.cell? ⟨w.heap.size, 1, none⟩ = some (.int .i64 x.value)))
      have hle : (refOut l x k).length < 999999 := by
        have h1 := out_len l x k
        have h3 := HL.out
        omega
      have HLE := Lib.hid hle
      have hki : (k : Int) < (len : Int) := by omega
      have HX := Lib.hid hy
      have hsz := hrs.lt
      obtain ⟨k0, k1, k2, k3⟩ := HF.out wr hrs
      clear hy hb t0 t1 hrs hle
      cases is
      · by_cases c1 : y.tick < x.tick
        · have HN := Lib.hid (out_low HSr.out HX.out c1)
          have d1 : decide (x.tick ≤ y.tick) = false := by simp; omega
          have d2 : (y.tick != x.tick) = true := by simp; omega
          go_wp2
          go_quiet (fail)
          go_wp2
          go_quiet (fail)
          go_wp2_with (at_builtin; refine push_smp _ rfl _ _ rfl (w.heap.size + 1) _ _ rfl (Own.alloc (Own.drewN_ HO.out _) _) _ _ 1 y rfl (Blk.new _ _ _) (Nat.lt_succ_of_lt HLE.out) (by simp; omega) ?_; intro v2 w2 ho2 hb2 hg2; have E1 := Lib.hid ho2; have E2 := Lib.hid (RS.push (RS.drewN R0.out _) _ hb2); clear ho2 hb2 hg2)
          go_roundw
          case rel => exact ⟨k + 1, false, by omega, by go_num, rfl, HN.out.2.1, by rw [HN.out.2.2]; exact E1.out, E2.out⟩
          case measure => simp [intOf]; omega
        · by_cases c2 : y.tick = x.tick
          · have HN := Lib.hid (out_same HX.out c2 HI.out)
            have HN2 := Lib.hid (in_next HX.out (t := x.tick) (by omega))
            have d1 : decide (x.tick ≤ y.tick) = true := by simp; omega
            have d2 : (y.tick != x.tick) = false := by simp; omega
            clear c1 c2
            go_wp2
            go_quiet (fail)
            go_wp2_with (at_builtin; refine push_smp _ rfl _ _ rfl (w.heap.size + 1) _ _ rfl (Own.alloc (Own.drewN_ HO.out _) _) _ _ 1 x rfl (Blk.new _ _ _) (Nat.lt_succ_of_lt HLE.out) (by have := hsz; simp; omega) ?_; intro v2 w2 ho2 hb2 hg2; have E1 := Lib.hid ho2; have E2 := Lib.hid (RS.push (RS.drewN R0.out _) _ hb2); clear ho2 hb2 hg2)
            obtain ⟨m0, m1, m2, m3⟩ := HF.out _ E2.out
            clear k0 k1 k2 k3
            go_quiet (fail)
            go_wp2
            go_roundw
            case rel => exact ⟨k + 1, true, by omega, by go_num, rfl, HN2.out, by rw [HN.out]; exact Own.drewN_ E1.out _, RS.drewN E2.out _⟩
            case measure => simp [intOf]; omega
          · have c3 : x.tick < y.tick := by omega
            have HN := Lib.hid (out_over HX.out c3 HI.out)
            have HN2 := Lib.hid (in_next HX.out (t := x.tick) (by omega))
            have d1 : decide (x.tick ≤ y.tick) = true := by simp; omega
            have d2 : (y.tick != x.tick) = true := by simp; omega
            clear c1 c2 c3
            go_wp2
            go_quiet (fail)
            go_wp2_with (at_builtin; refine push_smp _ rfl _ _ rfl (w.heap.size + 1) _ _ rfl (Own.alloc (Own.drewN_ HO.out _) _) _ _ 1 x rfl (Blk.new _ _ _) (Nat.lt_succ_of_lt HLE.out) (by have := hsz; simp; omega) ?_; intro v2 w2 ho2 hb2 hg2; have E1 := Lib.hid ho2; have E2 := Lib.hid (RS.push (RS.drewN R0.out _) _ hb2); clear ho2 hb2 hg2)
            obtain ⟨m0, m1, m2, m3⟩ := HF.out _ E2.out
            clear k0 k1 k2 k3
            have hle2 : (refOut l x k ++ [x]).length < 1000000 := by rw [List.length_append]; have := HLE.out; simp; omega
            have HLE2 := Lib.hid hle2
            have hsz2 := E2.out.lt
            clear hle2
            go_quiet (fail)
            go_wp2_with (at_builtin; refine push_smp _ rfl _ _ rfl (w.heap.size + 1) _ _ rfl (Own.alloc (Own.drewN_ E1.out _) _) _ _ 1 y rfl (Blk.new _ _ _) (HLE2.out) (by have := hsz2; simp; omega) ?_; intro v3 w3 ho3 hb3 hg3; have F1 := Lib.hid ho3; have F2 := Lib.hid (RS.push (RS.drewN E2.out _) _ hb3); clear ho3 hb3 hg3)
            go_roundw
            case rel => exact ⟨k + 1, true, by omega, by go_num, rfl, HN2.out, by rw [HN.out]; exact F1.out, F2.out⟩
            case measure => simp [intOf]; omega
      · have HN := Lib.hid (out_more HSr.out HX.out HI.out)
        have d2 : (y.tick != x.tick) = true := by have := HN.out.1; simp; omega
        go_wp2
        go_quiet (fail)
        go_wp2
        go_quiet (fail)
        go_wp2_with (at_builtin; refine push_smp _ rfl _ _ rfl (w.heap.size + 1) _ _ rfl (Own.alloc (Own.drewN_ HO.out _) _) _ _ 1 y rfl (Blk.new _ _ _) (Nat.lt_succ_of_lt HLE.out) (by have := hsz; simp; omega) ?_; intro v2 w2 ho2 hb2 hg2; have E1 := Lib.hid ho2; have E2 := Lib.hid (RS.push (RS.drewN R0.out _) _ hb2); clear ho2 hb2 hg2)
        go_roundw
        case rel => exact ⟨k + 1, true, by omega, by go_num, rfl, HN.out.2.1, by rw [HN.out.2.2]; exact E1.out, E2.out⟩
        case measure => simp [intOf]; omega
    · have hE : k = l.length := by have := HL.out; omega
      have hsz := hrs.lt
      obtain ⟨m2, m3⟩ := hrs.x0
      clear hrs
      cases is
      · have HP := Lib.hid (out_end_no (by rw [← hE]; exact HI.out))
        have hle : (refOut l x k).length < 1000000 := by have := out_len l x k; have := HL.out; omega
        have HLE := Lib.hid hle
        rw [← hE] at HP
        clear hE hle
        go_upto_region 13 with (at_builtin; refine push_smp _ rfl _ _ rfl (w.heap.size + 1) _ _ rfl (Own.alloc HO.out _) _ _ 1 x rfl (Blk.new _ _ _) HLE.out (by have := hsz; simp; omega) ?_; intro v2 w2 ho2 hb2 hg2; have E1 := Lib.hid (HP.out ▸ ho2); have E2 := Lib.hid (RS.push R0.out _ hb2); clear ho2 hb2 hg2)
        obtain ⟨h2, n2, c2, rfl, hn2⟩ := Own.some_ E1.out smp_len (by rw [putL_len]; omega)
        have hc2 := (E1.out.is smp_len).2.1
        have hc3 : c2 ≤ 9223372036854775807 := by have := (E1.out.is smp_len).2.2.1; unfold maxLen at this; omega
        have hn4 : 1 ≤ n2 := by rw [hn2, putL_len]; omega
        have hn5 : n2 ≤ 20000 := by rw [hn2]; have := len_putL l x; have := HL.out; omega
        have HFr := Lib.hid (show w.heap.size ≤ h2 ∧ h2 < _ from ⟨by have := (World.ownsRow.lt E1.out h2 rfl).1; omega, (World.ownsRow.lt E1.out h2 rfl).2⟩)
        have HN2 := Lib.hid hn2
        obtain ⟨y, T, hyT⟩ := putL_cons l x
        have HT := Lib.hid hyT
        clear hn2 hyT
        rcases HQ.out with ⟨q1, q2⟩ | ⟨q1, q2⟩
        · have q3 : room < n2 := by rw [HN2.out]; exact q1
          have H2 := Lib.hid q2
          clear q1 q2
          by_cases hc : c2 = 1
          · have HC := Lib.hid hc
            subst hc
            go_wp2
            go_ret
            refine ⟨_, _, _, rfl, ?_, E2.out.1, fun a ha => by cases ha; exact HFr.out⟩
            rw [H2.out, HT.out]
            have E4 := HT.out ▸ E1.out
            have E5 := (slice_tail E4).1 rfl
            have h0 : n2 - 1 = 0 := by omega
            have E6 := (slice_tail E4).2.2 E5
            rw [h0] at E6
            exact E6
          · go_wp2
            go_ret
            refine ⟨_, _, _, rfl, ?_, E2.out.1, fun a ha => by cases ha; exact HFr.out⟩
            rw [H2.out, HT.out]
            exact (slice_tail (HT.out ▸ E1.out)).2.1 hc
        · have q3 : ¬ room < n2 := by rw [HN2.out]; exact q1
          have H2 := Lib.hid q2
          clear q1 q2
          go_wp2
          go_ret
          refine ⟨_, _, _, rfl, ?_, E2.out.1, fun a ha => by cases ha; exact HFr.out⟩
          rw [H2.out]
          exact E1.out.is smp_len
      · have HP := Lib.hid (out_end_in (by rw [← hE]; exact HI.out))
        rw [← hE] at HP
        clear hE
        have E1 := Lib.hid (HP.out ▸ HO.out)
        obtain ⟨h2, n2, c2, rfl, hn2⟩ := Own.some_ E1.out smp_len (by rw [putL_len]; omega)
        have hc2 := (E1.out.is smp_len).2.1
        have hc3 : c2 ≤ 9223372036854775807 := by have := (E1.out.is smp_len).2.2.1; unfold maxLen at this; omega
        have hn4 : 1 ≤ n2 := by rw [hn2, putL_len]; omega
        have hn5 : n2 ≤ 20000 := by rw [hn2]; have := len_putL l x; have := HL.out; omega
        have HFr := Lib.hid (show w.heap.size ≤ h2 ∧ h2 < _ from ⟨by have := (World.ownsRow.lt E1.out h2 rfl).1; omega, (World.ownsRow.lt E1.out h2 rfl).2⟩)
        have HN2 := Lib.hid hn2
        obtain ⟨y, T, hyT⟩ := putL_cons l x
        have HT := Lib.hid hyT
        clear hn2 hyT
        rcases HQ.out with ⟨q1, q2⟩ | ⟨q1, q2⟩
        · have q3 : room < n2 := by rw [HN2.out]; exact q1
          have H2 := Lib.hid q2
          clear q1 q2
          by_cases hc : c2 = 1
          · have HC := Lib.hid hc
            subst hc
            go_wp2
            go_ret
            refine ⟨_, _, _, rfl, ?_, R0.out.1, fun a ha => by cases ha; exact HFr.out⟩
            rw [H2.out, HT.out]
            have E4 := HT.out ▸ E1.out
            have E5 := (slice_tail E4).1 rfl
            have h0 : n2 - 1 = 0 := by omega
            have E6 := (slice_tail E4).2.2 E5
            rw [h0] at E6
            exact E6
          · go_wp2
            go_ret
            refine ⟨_, _, _, rfl, ?_, R0.out.1, fun a ha => by cases ha; exact HFr.out⟩
            rw [H2.out, HT.out]
            exact (slice_tail (HT.out ▸ E1.out)).2.1 hc
        · have q3 : ¬ room < n2 := by rw [HN2.out]; exact q1
          have H2 := Lib.hid q2
          clear q1 q2
          go_wp2
          go_ret
          refine ⟨_, _, _, rfl, ?_, R0.out.1, fun a ha => by cases ha; exact HFr.out⟩
          rw [H2.out]
          exact E1.out.is smp_len
end Go.Proofs.Ytjodpffdlggjgaa
/- Package series: Put, Of; the reference's Of. -/
namespace Go.Proofs.Ytjodpffdlggjgaa
open Go.RowKit
set_option linter.unusedSimpArgs false
set_option linter.unusedVariables false
set_option maxHeartbeats 4000000
set_option maxRecDepth 100000
theorem putL_len_of {l : List Smp} (hs : Srt l) (x : Smp) : ((∃ y, l[placeq l x.tick]? = some y ∧ y.tick = x.tick) ∧ (putL l x).length = l.length) ∨ ((∀ y, l[placeq l x.tick]? = some y → y.tick ≠ x.tick) ∧ (putL l x).length = l.length + 1) := by
  by_cases h : ∃ y, l[placeq l x.tick]? = some y ∧ y.tick = x.tick
  · obtain ⟨y, h1, h2⟩ := h
    exact .inl ⟨⟨y, h1, h2⟩, by rw [← put_set hs h1 h2, List.length_set]⟩
  · have h2 : ∀ y, l[placeq l x.tick]? = some y → y.tick ≠ x.tick := fun y h1 h3 => h ⟨y, h1, h3⟩
    have := place_le l x.tick
    exact .inr ⟨h2, by rw [← put_ins hs h2]; simp; omega⟩
theorem series_Put (g : Nat) (v : Value) (l : List Smp) (room : Nat) (x : Smp) (w : World) (h : SerAt w g v l room) (hs : Srt l) (hlr : l.length ≤ room) (h1 : 1 ≤ room) (h2 : room ≤ 10000) (he : serErr x.tick x.value = 0) :
    Calls Try.prog 19 #[.pointer (some ⟨g, 0, none⟩), .int .i64 x.tick, .int .i64 x.value] w (SerPost g v (putq l room x) room w (.int .i64 0)) := by
  rcases putL_len_of hs x with ⟨⟨y, hy, hyt⟩, hl⟩ | ⟨hy, hl⟩
  · have e : putq l room x = l.set (placeq l x.tick) x := by
      unfold putq
      rw [if_neg (by omega), put_set hs hy hyt]
    rw [e]
    exact series_Put_set g v l room x.tick x.value y w h hs (by omega) he (by omega) hy hyt
  · have e : putq l room x = insq l room x.tick x.value := by
      unfold putq insq
      rw [hl]
      show _ = if (room : Int).toNat < l.length + 1 then (l.take (placeq l x.tick) ++ x :: l.drop (placeq l x.tick)).drop 1 else l.take (placeq l x.tick) ++ x :: l.drop (placeq l x.tick)
      rw [put_ins hs hy, Int.toNat_natCast]
    rw [e]
    exact series_Put_ins g v l room x.tick x.value w h hs (by omega) he (by omega) (by simpa using hlr) hy
theorem SerPost.same {g : Nat} {v : Value} {l : List Smp} {room : Int} {w : World} {ret : Value} (h : SerAt w g v l room) : SerPost g v l room w ret (.returned ret) w := ⟨v, rfl, h, Upd.refl _ _, fun _ hk => .inl hk⟩
/-- Put of whatever sample. -/
theorem series_Putv (g : Nat) (v : Value) (l : List Smp) (room : Nat) (x : Smp) (w : World) (h : SerAt w g v l room) (hs : Srt l) (hlr : l.length ≤ room) (h1 : 1 ≤ room) (h2 : room ≤ 10000) :
    Calls Try.prog 19 #[.pointer (some ⟨g, 0, none⟩), .int .i64 x.tick, .int .i64 x.value] w (SerPost g v (putv l room x) room w (.int .i64 (serErr x.tick x.value))) := by
  by_cases he : serErr x.tick x.value = 0
  · have := series_Put g v l room x w h hs hlr h1 h2 he
    unfold putv
    rw [if_pos he, he]
    exact this
  · unfold putv
    rw [if_neg he]
    refine (series_Put_bad (some ⟨g, 0, none⟩) x.tick x.value _ w he rfl).mono ?_
    rintro e w' ⟨rfl, rfl⟩
    exact SerPost.same h
theorem series_Putv_nil (x : Smp) (w : World) :
    Calls Try.prog 19 #[.pointer none, .int .i64 x.tick, .int .i64 x.value] w fun e w' => e = .returned (.int .i64 (if serErr x.tick x.value = 0 then 5 else serErr x.tick x.value)) ∧ w = w' := by
  by_cases he : serErr x.tick x.value = 0
  · rw [if_pos he]; exact series_Put_nil x.tick x.value w he
  · rw [if_neg he]; exact series_Put_bad none x.tick x.value _ w he rfl
theorem srt_putv {l : List Smp} (hs : Srt l) (room : Nat) (x : Smp) : Srt (putv l room x) := by
  unfold putv; split
  · exact srt_putq hs room x
  · exact hs
theorem len_putv {l : List Smp} {room : Nat} (h : l.length ≤ room) (h1 : 1 ≤ room) (x : Smp) : (putv l room x).length ≤ room := by
  unfold putv; split
  · exact len_putq h h1 x
  · exact h
theorem good_putv {l : List Smp} (h : ∀ y ∈ l, y.good) {x : Smp} (hx : x.good) (room : Nat) : ∀ y ∈ putv l room x, y.good := by
  unfold putv; split
  · exact good_putq h hx room
  · exact h
theorem serq_next {l : List Smp} {k : Nat} {x : Smp} (room : Nat) (h : l[k]? = some x) : serq room (l.take (k + 1)) = putv (serq room (l.take k)) room x := by
  unfold serq; rw [take_snoc2 h, List.foldl_append]; rfl
theorem fold_all {P : List Smp → Prop} {room : Nat} (hp : ∀ a x, P a → P (putv a room x)) : ∀ (l a : List Smp), P a → P (l.foldl (fun a x => putv a room x) a)
  | [], a, h => h
  | x :: l, a, h => fold_all hp l _ (hp a x h)
theorem srt_serq (room : Nat) (l : List Smp) : Srt (serq room l) := fold_all (P := Srt) (fun a x h => srt_putv h room x) l [] List.Pairwise.nil
theorem len_serq {room : Nat} (h1 : 1 ≤ room) (l : List Smp) : (serq room l).length ≤ room := fold_all (P := fun a => a.length ≤ room) (fun a x h => len_putv h h1 x) l [] (Nat.zero_le _)
theorem good_serq (room : Nat) {l : List Smp} (hg : ∀ y ∈ l, y.good) : ∀ y ∈ serq room l, y.good := by
  have key : ∀ (l a : List Smp), (∀ y ∈ l, y.good) → (∀ y ∈ a, y.good) → ∀ y ∈ l.foldl (fun a x => putv a room x) a, y.good := by
    intro l
    induction l with
    | nil => intro a _ h; exact h
    | cons x l ih => intro a hl ha; exact ih _ (fun y hy => hl y (by simp [hy])) (good_putv ha (hl x (by simp)) room)
  exact key l [] hg (fun y hy => by simp at hy)
/-- A series of the call's own. -/
def SerIn (B : Nat) (w wr : World) (g : Nat) (v : Value) (l : List Smp) (room : Int) : Prop := SerAt wr g v l room ∧ (∀ k, foot g v k → B ≤ k) ∧ Below B w wr ∧ B ≤ wr.heap.size
theorem SerIn.call {B : Nat} {w wr w' : World} {g : Nat} {v : Value} {l : List Smp} {room : Int} (h : SerIn B w wr g v l room) (hb : Below wr.heap.size wr w') : SerIn B w w' g v l room :=
  ⟨h.1.call hb, h.2.1, h.2.2.1.trans (hb.mono h.2.2.2), Nat.le_trans h.2.2.2 hb.size⟩
theorem SerIn.post {B : Nat} {w wr w' : World} {g : Nat} {v : Value} {l l' : List Smp} {room : Int} {ret : Value} {e : Ending} (h : SerIn B w wr g v l room) (hp : SerPost g v l' room wr ret e w') : e = .returned ret ∧ ∃ v', SerIn B w w' g v' l' room := by
  obtain ⟨v', he, h1, h2, h3⟩ := hp
  refine ⟨he, v', h1, fun k hk => (h3 k hk).elim (fun hk => h.2.1 k hk) (fun hk => Nat.le_trans h.2.2.2 hk), h.2.2.1.trans (h2.below h.2.1 h.2.2.2), Nat.le_trans h.2.2.2 h2.size⟩
theorem series_Of_nil (room : Int) (A : Option Addr) (len cap : Nat) (l : List Smp) (w : World) (hs : SmpsAre w A len cap l) (hn : len ≤ 10000) (hr : room < 1 ∨ 256 < room) :
    Calls Try.prog 23 #[.int .i64 room, .slice A len cap] w fun e w' => e = .returned (.pointer none) ∧ Below w.heap.size w w' := by
  have HS := Lib.hid hs
  have HC := Lib.hid (fun w => series_New_no room w hr)
  clear hs hr
  go_enter Try.func23, Try.ntmps23
  go_wp2_with (go_at_call 15; refine (HC.out _).mono ?_; rintro e w1 ⟨rfl, rfl⟩)
  go_loopw [12] (fun i wr => ∃ k : Nat, k ≤ len ∧ i = .int .i64 k ∧ Below w.heap.size w wr) (fun i _ => len - (intOf i).toNat)
  case atStart => exact ⟨0, Nat.zero_le _, rfl, Below.refl _ _⟩
  case round =>
    obtain ⟨k, hk, rfl, hbel⟩ := hrel
    by_cases hlt : k < len
    · obtain ⟨b, off, x, rfl, hx, hb, t0, t1⟩ := HS.out.at_ hlt
      have kt0 := (hbel.cell (p := ⟨b, off + k * 2, none⟩) hb).trans t0
      have kt1 := (hbel.cell (p := ⟨b, off + k * 2 + 1, none⟩) hb).trans t1
      have hki : (k : Int) < (len : Int) := by omega
      have HB := Lib.hid hbel
      have HP := Lib.hid (fun w => series_Putv_nil x w)
      clear hx hb t0 t1 hbel
      go_wp2_with (go_at_call 19; refine (HP.out _).mono ?_; rintro e w1 ⟨rfl, rfl⟩)
      go_roundw
      case rel => exact ⟨k + 1, by omega, by go_num, HB.out.alloc HB.out.size _⟩
      case measure => simp [intOf]; omega
    · have HB := Lib.hid hbel
      clear hbel
      go_wp2
      go_ret
      exact ⟨rfl, HB.out⟩
theorem SerIn.new (w : World) (room : Int) : SerIn w.heap.size w (w.alloc (.cells #[.slice none 0 0, .int .i64 room] 92)) w.heap.size (.slice none 0 0) [] room :=
  ⟨SerAt.new w room, fun k hk => by
    rcases hk with rfl | hk
    · exact Nat.le_refl _
    · simp [Value.ownBlock] at hk, by go_grown, by simp⟩
def OfS (w : World) (l : List Smp) (room : Int) (e : Ending) (w' : World) : Prop := ∃ g v, e = .returned (.pointer (some ⟨g, 0, none⟩)) ∧ SerIn w.heap.size w w' g v l room
theorem series_Of (room : Nat) (A : Option Addr) (len cap : Nat) (l : List Smp) (w : World) (hs : SmpsAre w A len cap l) (hn : len ≤ 10000) (h1 : 1 ≤ room) (h2 : room ≤ 256) :
    Calls Try.prog 23 #[.int .i64 room, .slice A len cap] w (OfS w (serq room l) room) := by
  have HS := Lib.hid hs
  have HL := Lib.hid hs.1
  have HC := Lib.hid (fun w => series_New room w (by omega) (by omega))
  have HP := Lib.hid (fun g v l x w h hs hlr => series_Putv g v l room x w h hs hlr h1 (by omega))
  have HLn := Lib.hid (fun k => len_serq h1 (l.take k))
  clear hs
  go_enter Try.func23, Try.ntmps23
  go_wp2_with (go_at_call 15; refine (HC.out _).mono ?_; rintro e w1 ⟨rfl, rfl⟩)
  go_loopw [12] (fun i wr => ∃ k : Nat, ∃ v : Value, k ≤ len ∧ i = .int .i64 k ∧ SerIn w.heap.size w wr w.heap.size v (serq room (l.take k)) room) (fun i _ => len - (intOf i).toNat)
  case atStart => exact ⟨0, _, Nat.zero_le _, rfl, SerIn.new w room⟩
  case round =>
    obtain ⟨k, v, hk, rfl, hin⟩ := hrel
    have HI := Lib.hid hin
    clear hin
    by_cases hlt : k < len
    · obtain ⟨b, off, x, rfl, hx, hb, t0, t1⟩ := HS.out.at_ hlt
      have kt0 := (HI.out.2.2.1.cell (p := ⟨b, off + k * 2, none⟩) hb).trans t0
      have kt1 := (HI.out.2.2.1.cell (p := ⟨b, off + k * 2 + 1, none⟩) hb).trans t1
      have hki : (k : Int) < (len : Int) := by omega
      have HN := Lib.hid (serq_next room hx)
      have I2 := Lib.hid (HI.out.call (w' := wr.alloc (.cells #[.int .i64 x.tick, .int .i64 x.value] 35)) ((Below.refl _ wr).alloc (Nat.le_refl _) _))
      clear hx hb t0 t1
      go_wp2_with (go_at_call 19; refine (HP.out w.heap.size v _ x _ I2.out.1 (srt_serq _ _) (HLn.out k)).mono ?_; intro e w1 hp; obtain ⟨rfl, v', hi⟩ := I2.out.post hp; have I3 := Lib.hid hi; clear hi hp)
      go_roundw
      case rel => exact ⟨k + 1, v', by omega, by go_num, by rw [HN.out]; exact I3.out⟩
      case measure => simp [intOf]; omega
    · have hE : l.take k = l := List.take_of_length_le (by have := HL.out; omega)
      rw [hE] at HI
      clear hE
      go_wp2
      go_ret
      exact ⟨_, v, rfl, HI.out⟩
theorem ref08_Of (room : Nat) (A : Option Addr) (len cap : Nat) (l : List Smp) (w : World) (hs : SmpsAre w A len cap l) (hn : len ≤ 10000) (h1 : 1 ≤ room) (h2 : room ≤ 256) :
    Calls Try.prog 27 #[.int .i64 room, .slice A len cap] w (PutS w (serq room l)) := by
  have HS := Lib.hid hs
  have HL := Lib.hid hs.1
  have HLn := Lib.hid (fun k => len_serq h1 (l.take k))
  have H2 := Lib.hid h2
  clear hs
  go_enter Try.func27, Try.ntmps27
  go_wp2
  go_loopw [5, 6] (fun v i wr => ∃ k : Nat, ∃ (A2 : Option Addr) (n2 c2 : Nat), k ≤ len ∧ i = .int .i64 k ∧ v = .slice A2 n2 c2 ∧ SmpsAre wr A2 n2 c2 (serq room (l.take k)) ∧ Below w.heap.size w wr ∧ (∀ a, A2 = some a → w.heap.size ≤ a.block ∧ a.block < wr.heap.size)) (fun _ i _ => len - (intOf i).toNat)
  case atStart => exact ⟨0, none, 0, 0, Nat.zero_le _, rfl, rfl, slice_nil _ _ _, Below.refl _ _, fun a ha => by cases ha⟩
  case round =>
    obtain ⟨k, A2, n2, c2, hk, rfl, rfl, hsm, hbel, hfr⟩ := hrel
    have HFr := Lib.hid hfr
    clear hfr
    have HM := Lib.hid hsm
    have HB := Lib.hid hbel
    clear hsm
    by_cases hlt : k < len
    · obtain ⟨b, off, x, rfl, hx, hb, t0, t1⟩ := HS.out.at_ hlt
      have kt0 := (hbel.cell (p := ⟨b, off + k * 2, none⟩) hb).trans t0
      have kt1 := (hbel.cell (p := ⟨b, off + k * 2 + 1, none⟩) hb).trans t1
      have hki : (k : Int) < (len : Int) := by omega
      have HN := Lib.hid (serq_next room hx)
      have HP := Lib.hid (fun W hW => ref08_Put A2 n2 c2 (serq room (l.take k)) room x W hW (by have := HM.out.1; have := HLn.out k; have := H2.out; omega) (srt_serq _ _) (by have := H2.out; omega))
      clear hx hb t0 t1 hbel
      by_cases he : serErr x.tick x.value = 0
      · have HV := Lib.hid (show putv (serq room (l.take k)) room x = putq (serq room (l.take k)) room x from if_pos he)
        have HR := Lib.hid (fun w => ref08_Right x.tick x.value w)
        rw [he] at HR
        clear he
        go_wp2
        go_quiet ((go_at_call 18; exact Calls.quiet_of_same ((HR.out _).mono fun _ _ h => ⟨h.1, h.2.symm⟩)))
        go_wp2_with fail
        refine (HP.out _ (slice_keep HM.out (below_drewN (Below.refl _ _) _))).mono ?_
        rintro e w1 ⟨A3, n3, c3, rfl, hs3, hb3, hf3⟩
        have E3 := Lib.hid (fun a ha => (⟨Nat.le_trans HB.out.size (hf3 a ha).1, (hf3 a ha).2⟩ : w.heap.size ≤ a.block ∧ a.block < w1.heap.size))
        clear hf3
        have E1 := Lib.hid (HN.out ▸ HV.out ▸ hs3)
        have E2 := Lib.hid ((below_drewN HB.out _).trans (hb3.mono HB.out.size))
        clear hs3 hb3
        go_wp2
        go_roundw
        case rel => exact ⟨k + 1, A3, n3, c3, by omega, by go_num, rfl, E1.out, E2.out, E3.out⟩
        case measure => simp [intOf]; omega
      · have HV := Lib.hid (show putv (serq room (l.take k)) room x = serq room (l.take k) from if_neg he)
        have HR := Lib.hid (fun w => ref08_Right x.tick x.value w)
        generalize serErr x.tick x.value = E at *
        have d0 : (E == 0) = false := by simpa using he
        clear he
        go_wp2
        go_quiet ((go_at_call 18; exact Calls.quiet_of_same ((HR.out _).mono fun _ _ h => ⟨h.1, h.2.symm⟩)))
        go_wp2
        go_roundw
        case rel => exact ⟨k + 1, A2, n2, c2, by omega, by go_num, rfl, by rw [HN.out, HV.out]; exact slice_keep HM.out (below_drewN (Below.refl _ _) _), below_drewN HB.out _, HFr.out⟩
        case measure => simp [intOf]; omega
    · have hE : l.take k = l := List.take_of_length_le (by have := HL.out; omega)
      rw [hE] at HM
      clear hE hbel
      go_wp2
      go_ret
      exact ⟨_, _, _, rfl, HM.out, HB.out, HFr.out⟩
end Go.Proofs.Ytjodpffdlggjgaa
/- A series, or none, in one: New, Put, List. -/
namespace Go.Proofs.Ytjodpffdlggjgaa
open Go.RowKit
set_option linter.unusedSimpArgs false
set_option linter.unusedVariables false
set_option maxHeartbeats 4000000
set_option maxRecDepth 100000
def goodS (room : Int) : Prop := 1 ≤ room ∧ room ≤ 256
instance (room : Int) : Decidable (goodS room) := by unfold goodS; infer_instance
def putr (l : List Smp) (room : Int) (x : Smp) : List Smp := if goodS room then putv l room.toNat x else l
def errr (room : Int) (x : Smp) : Int := if serErr x.tick x.value = 0 then (if goodS room then 0 else 5) else serErr x.tick x.value
/-- p is a series (or none), in the blocks F. -/
def SerV (w : World) (p : Option Addr) (F : Nat → Prop) (xs : List Smp) (room : Int) : Prop :=
  ((p = none ∧ xs = [] ∧ ¬ goodS room) ∨ ∃ (g : Nat) (v : Value) (rm : Nat), p = some ⟨g, 0, none⟩ ∧ room = rm ∧ 1 ≤ rm ∧ rm ≤ 256 ∧ SerAt w g v xs rm ∧ (∀ k, foot g v k → F k) ∧ Srt xs ∧ xs.length ≤ rm) ∧ ∀ k, F k → k < w.heap.size
theorem SerV.upd {S F : Nat → Prop} {w w' : World} {p : Option Addr} {xs : List Smp} {room : Int} (h : SerV w p F xs room) (hu : Upd S w w') (hn : ∀ k, F k → ¬ S k) : SerV w' p F xs room := by
  refine ⟨?_, fun k hk => Nat.lt_of_lt_of_le (h.2 k hk) hu.size⟩
  rcases h.1 with h | ⟨g, v, rm, e1, e2, e3, e4, e5, e6, e7⟩
  · exact .inl h
  · exact .inr ⟨g, v, rm, e1, e2, e3, e4, e5.upd hu (fun k hk => hn k (e6 k hk)), e6, e7⟩
theorem SerV.call {F : Nat → Prop} {w w' : World} {p : Option Addr} {xs : List Smp} {room : Int} (h : SerV w p F xs room) (hb : Below w.heap.size w w') : SerV w' p F xs room :=
  h.upd (S := fun _ => False) (Upd.of_below hb) (fun _ _ hk => hk)
theorem SerV.len {F : Nat → Prop} {w : World} {p : Option Addr} {xs : List Smp} {room : Int} (h : SerV w p F xs room) : xs.length ≤ 256 := by
  rcases h.1 with ⟨-, rfl, -⟩ | ⟨g, v, rm, e1, e2, e3, e4, e5, e6, e7, e8⟩
  · simp
  · omega
def NewV (w : World) (room : Int) (e : Ending) (w' : World) : Prop := ∃ p F, e = .returned (.pointer p) ∧ SerV w' p F [] room ∧ (∀ k, F k → w.heap.size ≤ k) ∧ Below w.heap.size w w'
theorem serv_New (room : Int) (w : World) : Calls Try.prog 15 #[.int .i64 room] w (NewV w room) := by
  by_cases hr : goodS room
  · obtain ⟨rm, rfl⟩ : ∃ rm : Nat, room = rm := ⟨room.toNat, by unfold goodS at hr; omega⟩
    have h1 : 1 ≤ rm := by unfold goodS at hr; omega
    have h2 : rm ≤ 256 := by unfold goodS at hr; omega
    refine (series_New rm w (by omega) (by omega)).mono ?_
    rintro e w' ⟨rfl, rfl⟩
    refine ⟨_, fun k => k = w.heap.size, rfl, ⟨.inr ⟨_, _, rm, rfl, rfl, h1, h2, SerAt.new w rm, ?_, List.Pairwise.nil, by simp⟩, ?_⟩, ?_, by go_grown⟩
    · rintro k (rfl | hk)
      · rfl
      · simp [Value.ownBlock] at hk
    · rintro k rfl; simp
    · rintro k rfl; exact Nat.le_refl _
  · refine (series_New_no room w (by unfold goodS at hr; omega)).mono ?_
    rintro e w' ⟨rfl, rfl⟩
    exact ⟨none, fun _ => False, rfl, ⟨.inl ⟨rfl, rfl, hr⟩, fun _ hk => hk.elim⟩, fun _ hk => hk.elim, Below.refl _ _⟩
def PutV (p : Option Addr) (F : Nat → Prop) (xs : List Smp) (room : Int) (x : Smp) (w : World) (e : Ending) (w' : World) : Prop := ∃ F', e = .returned (.int .i64 (errr room x)) ∧ SerV w' p F' (putr xs room x) room ∧ Upd F w w' ∧ ∀ k, F' k → F k ∨ w.heap.size ≤ k
theorem serv_Put (p : Option Addr) (F : Nat → Prop) (xs : List Smp) (room : Int) (x : Smp) (w : World) (h : SerV w p F xs room) :
    Calls Try.prog 19 #[.pointer p, .int .i64 x.tick, .int .i64 x.value] w (PutV p F xs room x w) := by
  rcases h.1 with ⟨rfl, rfl, hr⟩ | ⟨g, v, rm, rfl, rfl, e3, e4, e5, e6, e7, e8⟩
  · refine (series_Putv_nil x w).mono ?_
    rintro e w' ⟨rfl, rfl⟩
    refine ⟨F, ?_, ⟨.inl ⟨rfl, ?_, hr⟩, h.2⟩, Upd.refl _ _, fun k hk => .inl hk⟩
    · unfold errr; rw [if_neg hr]
    · unfold putr; rw [if_neg hr]
  · refine (series_Putv g v xs rm x w e5 e7 e8 e3 (by omega)).mono ?_
    rintro e w' ⟨v', rfl, k1, k2, k3⟩
    have hg : goodS rm := by unfold goodS; omega
    have hp : putr xs rm x = putv xs rm x := by unfold putr; rw [if_pos hg]; rfl
    refine ⟨fun k => F k ∨ foot g v' k, ?_, ⟨.inr ⟨g, v', rm, rfl, rfl, e3, e4, by rw [hp]; exact k1, fun k hk => .inr hk, by rw [hp]; exact srt_putv e7 rm x, by rw [hp]; exact len_putv e8 e3 x⟩, ?_⟩, k2.mono e6, ?_⟩
    · unfold errr; rw [if_pos hg]; split
      · rename_i h0; rw [h0]
      · rfl
    · rintro k (hk | hk)
      · exact Nat.lt_of_lt_of_le (h.2 k hk) k2.size
      · exact k1.lt k hk
    · rintro k (hk | hk)
      · exact .inl hk
      · exact (k3 k hk).imp (e6 k) id
theorem serv_List (p : Option Addr) (F : Nat → Prop) (xs : List Smp) (room : Int) (w : World) (h : SerV w p F xs room) :
    Calls Try.prog 54 #[.pointer p] w (CloneS w xs) := by
  rcases h.1 with ⟨rfl, rfl, hr⟩ | ⟨g, v, rm, rfl, rfl, e3, e4, e5, e6, e7, e8⟩
  · refine (series_List_nil w).mono ?_
    rintro e w' ⟨rfl, rfl⟩
    exact CloneS.mk (Own.nil _ _ _ _ _) (Below.refl _ _)
  · exact series_List g v xs rm w e5 (by omega)
end Go.Proofs.Ytjodpffdlggjgaa
/- A ring, plain: what it keeps, in order. -/
namespace Go.Proofs.Ytjodpffdlggjgaa
set_option linter.unusedVariables false
set_option linter.unusedSimpArgs false
def ringq (ph : List Adv) (fr : Nat) : List Adv := ph.drop fr ++ ph.take fr
def pushq (l : List Adv) (room : Nat) (x : Adv) : List Adv := if room < (l ++ [x]).length then (l ++ [x]).drop 1 else l ++ [x]
def RI (ph : List Adv) (fr room : Nat) : Prop := ph.length ≤ room ∧ (ph.length < room → fr = 0) ∧ fr < room
theorem ringq_len (ph : List Adv) (fr room : Nat) (h : RI ph fr room) : (ringq ph fr).length = ph.length := by
  unfold ringq
  rw [List.length_append, List.length_drop, List.length_take]
  have := h.1
  have := h.2.1
  have := h.2.2
  omega
theorem ring_room {ph : List Adv} {fr room : Nat} (h : RI ph fr room) (hl : ph.length < room) (x : Adv) : RI (ph ++ [x]) fr room ∧ ringq (ph ++ [x]) fr = pushq (ringq ph fr) room x := by
  have h0 := h.2.1 hl
  subst h0
  refine ⟨⟨by simp; omega, fun _ => rfl, h.2.2⟩, ?_⟩
  unfold ringq pushq
  simp only [List.drop_zero, List.take_zero, List.append_nil, List.length_append, List.length_singleton]
  rw [if_neg (by omega)]
theorem ring_full {ph : List Adv} {fr room : Nat} (h : RI ph fr room) (hl : ph.length = room) (x : Adv) : RI (ph.set fr x) ((fr + 1) % room) room ∧ ringq (ph.set fr x) ((fr + 1) % room) = pushq (ringq ph fr) room x := by
  have h2 := h.2.2
  have hlt : fr < ph.length := by omega
  refine ⟨⟨by simp; omega, fun hh => by simp at hh; omega, Nat.mod_lt _ (by omega)⟩, ?_⟩
  have e0 : pushq (ringq ph fr) room x = ph.drop (fr + 1) ++ ph.take fr ++ [x] := by
    unfold pushq
    rw [if_pos (by rw [List.length_append, ringq_len ph fr room h]; simp; omega)]
    unfold ringq
    rw [List.drop_eq_getElem_cons hlt]
    rfl
  rw [e0]
  unfold ringq
  rw [List.set_eq_take_append_cons_drop, if_pos hlt]
  have hl2 : (ph.take fr).length = fr := by rw [List.length_take]; omega
  rcases Nat.lt_or_ge (fr + 1) room with h3 | h3
  · rw [Nat.mod_eq_of_lt h3]
    have e1 : (ph.take fr ++ x :: ph.drop (fr + 1)).drop (fr + 1) = ph.drop (fr + 1) := by
      rw [List.drop_append, List.drop_of_length_le (by omega), hl2, show fr + 1 - fr = 1 by omega]; simp
    have e2 : (ph.take fr ++ x :: ph.drop (fr + 1)).take (fr + 1) = ph.take fr ++ [x] := by
      rw [List.take_append, List.take_of_length_le (by omega), hl2, show fr + 1 - fr = 1 by omega]; simp
    rw [e1, e2, List.append_assoc]
  · have : fr + 1 = room := by omega
    rw [this, Nat.mod_self, List.drop_of_length_le (show ph.length ≤ room by omega)]
    simp
theorem ring_at {ph : List Adv} {fr room : Nat} (h : RI ph fr room) {i : Nat} (hi : i < ph.length) : (fr + i) % ph.length < ph.length ∧ ph[(fr + i) % ph.length]? = (ringq ph fr)[i]? := by
  have h1 := h.1
  have h2 := h.2.1
  have h3 := h.2.2
  refine ⟨Nat.mod_lt _ (by omega), ?_⟩
  unfold ringq
  rcases Nat.lt_or_ge (fr + i) ph.length with h4 | h4
  · rw [Nat.mod_eq_of_lt h4, List.getElem?_append_left (by rw [List.length_drop]; omega), List.getElem?_drop]
  · have e : (fr + i) % ph.length = fr + i - ph.length := by
      rw [Nat.mod_eq_sub_mod h4, Nat.mod_eq_of_lt (by omega)]
    rw [e, List.getElem?_append_right (by rw [List.length_drop]; omega), List.length_drop, List.getElem?_take, if_pos (by omega)]
    congr 1
    omega
theorem push_len {l : List Adv} {room : Nat} (h : l.length ≤ room) (h1 : 1 ≤ room) (x : Adv) : (pushq l room x).length ≤ room ∧ 1 ≤ (pushq l room x).length := by
  unfold pushq
  split
  · simp at *; omega
  · simp at *; omega
theorem push_good {l : List Adv} (h : ∀ y ∈ l, y.good) {x : Adv} (hx : x.good) (room : Nat) : ∀ y ∈ pushq l room x, y.good := by
  intro y hy
  unfold pushq at hy
  have key : ∀ y ∈ l ++ [x], y.good := fun y hy => by
    rw [List.mem_append] at hy
    rcases hy with hy | hy
    · exact h y hy
    · simp at hy; subst hy; exact hx
  split at hy
  · exact key y (List.mem_of_mem_drop hy)
  · exact key y hy
end Go.Proofs.Ytjodpffdlggjgaa
