/- Several texts in one. -/
import Derived.Test.YtkjmacdekfbfhaaRegG
import Derived.Test.YtkjmacdekfbfhaaKBlendMerges1
/- One of several operations of a region that draws its order comes up. -/
namespace Go.Proofs.Ytkjmacdekfbfhaa
open Go.RowKit
theorem anyG_list {P : Program} {ops : Array Oper} {Q : Exit → Act → World → Prop} {md : Region.Mode} {late : Nat → Bool} {S : World → Prop} {ks : List Nat} {n : Nat} {listed : Array Bool} {a : Act} {w : World} (hr : Region.ready md ops listed = ks) (hne : ks ≠ [])
    (h : ∀ k ∈ ks, ∃ o, ops[k]? = some o ∧ Region.wanted o (yielded ops a.tmps) = true ∧ ∀ Q2 : Exit → Act → World → Prop, (∀ a' w', (late k = false → S w') → anyG P md ops Q late S n (listed.setIfInBounds k true) a' w' → Q2 .normal a' w') → wpList P ops Q2 [o] a w) : anyG P md ops Q late S (n + 1) listed a w := by
  refine ⟨fun h0 => absurd (hr.symm.trans h0) hne, fun k hk => ?_⟩
  rw [hr] at hk
  obtain ⟨o, ho, hw, h1⟩ := h k hk
  have h1 := h1 (fun e a' w' => match e with | .normal => (late k = false → S w') ∧ anyG P md ops Q late S n (listed.setIfInBounds k true) a' w' | e => False) (fun a' w' h1 h2 => ⟨h1, h2⟩)
  unfold wpList at h1
  simp only [hw, if_true] at h1
  unfold wpOp
  simp only [ho, hw, if_true]
  rcases h1 with h1 | h1
  · exact .inl (wp_quietly (fun _ _ _ h => h) (fun ⟨_, _, h⟩ => h) h1)
  · exact absurd h1.2 (fun ⟨_, _, h⟩ => h)
end Go.Proofs.Ytkjmacdekfbfhaa
/- flywheelref46.Thin. (fast region, no defers) -/
namespace Go.Proofs.Ytkjmacdekfbfhaa
open Go.RowKit
set_option linter.unusedSimpArgs false
set_option linter.unusedVariables false
set_option maxHeartbeats 4000000
set_option maxRecDepth 100000
theorem stl_next {wd : Int} {l : List Smp} {k : Nat} {x : Smp} (h : l[k]? = some x) : mrgq (stl wd (l.take (k + 1))) = putM (startq x.tick wd) 0 (mrgq (stl wd (l.take k))) := by
  rw [take_nx h]; unfold stl; rw [List.map_append, List.map_cons, List.map_nil, mrgq_snoc]; rfl
theorem thinq_next {wd : Int} {l : List Smp} {k : Nat} {x : Smp} (h : (mrgq (stl wd l))[k]? = some x) : (thinq wd l).take (k + 1) = (thinq wd l).take k ++ [⟨x.tick, meanq (valq (grp wd l x.tick))⟩] :=
  take_nx (by unfold thinq; rw [List.getElem?_map, h]; rfl)
theorem grp_next {wd : Int} {l : List Smp} {k : Nat} {x : Smp} (t : Int) (h : l[k]? = some x) : grp wd (l.take (k + 1)) t = grp wd (l.take k) t ++ if startq x.tick wd = t then [x] else [] := by
  rw [take_nx h, grp_snoc]
theorem ref46_Thin (A : Option Addr) (len cap : Nat) (l : List Smp) (wd : Int) (w : World) (hs : SmpsAre w A len cap l) (hg : ∀ x ∈ l, x.good) (hn : len ≤ 200) (hw : I64 wd) : Calls Try.prog 37 #[.slice A len cap, .int .i64 wd] w (PutP w (thinq wd l)) := by
  have HS := Lib.hid hs
  have HL := Lib.hid hs.1
  have HG := Lib.hid hg
  have HW := Lib.hid hw
  clear hs hg hw
  go_enter Try.func37, Try.ntmps37
  go_wp2
  go_loopw [5, 6] (fun o i wr => ∃ (k n c : Nat) (Ao : Option Addr), k ≤ len ∧ i = .int .i64 k ∧ o = .slice Ao n c ∧ OwnS wr w.heap.size (.slice Ao n c) (mrgq (stl wd (l.take k))) ∧ Below w.heap.size w wr) (fun _ i _ => len - (intOf i).toNat)
  case atStart => exact ⟨0, 0, 0, none, Nat.zero_le _, rfl, rfl, Own.nil _ _ _ _ _, Below.refl _ _⟩
  case round =>
    obtain ⟨k, no, co, Ao, hk, rfl, rfl, hown, hbel⟩ := hrel
    have HO := Lib.hid hown
    have HB := Lib.hid hbel
    by_cases hlt : k < len
    · obtain ⟨bb, off, x, rfl, hx, hb, c0, -⟩ := SmpsAre.at_ (slice_keep HS.out hbel) hlt
      have hki : (k : Int) < (len : Int) := by omega
      have HNx := Lib.hid (stl_next (wd := wd) hx)
      have HXg := Lib.hid (HG.out x (List.mem_of_getElem? hx))
      have HSt := Lib.hid (fun W => ref46_Start x.tick wd W HXg.out.1 HW.out)
      have hgt : ∀ y ∈ stl wd (l.take k), y.good := stl_good fun y hy => HG.out y (List.mem_of_mem_take hy)
      have HPp := Lib.hid (mrgq_pos _ hgt)
      have HPl := Lib.hid (show (mrgq (stl wd (l.take k))).length ≤ 1000 from by
        have := mrgq_len (stl wd (l.take k))
        unfold stl at this
        rw [List.length_map, List.length_take] at this
        unfold stl; omega)
      obtain ⟨xt, xv⟩ := x
      dsimp only at HNx HSt c0
      generalize startq xt wd = AT at *
      generalize mrgq (stl wd (l.take k)) = LM at *
      clear hx hb hown hbel hgt
      go_wp2_with (first
        | (go_at_call 38; refine (HSt.out _).mono ?_; rintro e w1 ⟨rfl, rfl⟩)
        | (go_at_call 78; refine (ref46_put w.heap.size no co Ao LM AT 0 _ HO.out HPl.out (by unfold mxI; omega) HPp.out).mono ?_; rintro e w2 ⟨A2, n2, c2, rfl, ho2, hb2⟩; have O2 := Lib.hid (ho2.mono HB.out.size); have B2 := Lib.hid (HB.out.trans (hb2.mono HB.out.size)); clear ho2 hb2))
      go_roundw
      case rel => exact ⟨k + 1, n2, c2, A2, by omega, by go_num, rfl, by rw [HNx.out]; exact O2.out, B2.out⟩
      case measure => simp [intOf]; omega
    · have hE : l.take k = l := List.take_of_length_le (by have := HL.out; omega)
      rw [hE] at HO
      have hki : (len : Int) ≤ (k : Int) := by omega
      obtain ⟨A1, n1, c1, he, hn1, hi1⟩ := ownS_isB HO.out
      injection he with e1 e2 e3
      subst e1; subst e2; subst e3
      have HI := Lib.hid hi1
      have HN1 := Lib.hid hn1
      have hn5 : no ≤ 200 := by
        have := mrgq_len (stl wd l)
        unfold stl at this
        rw [List.length_map] at this
        have h2 : no = (mrgq (stl wd l)).length := hn1
        unfold stl at h2
        have := HL.out
        omega
      obtain ⟨w1, rfl⟩ : ∃ w1 : World, w1 = wr := ⟨_, rfl⟩
      clear hE hown hbel hi1 hn1
      go_wp2
      go_loopw [7, 8] (fun o i wr => ∃ (k n c : Nat) (Ao : Option Addr), k ≤ no ∧ i = .int .i64 k ∧ o = .slice Ao n c ∧ OwnS wr w1.heap.size (.slice Ao n c) ((thinq wd l).take k) ∧ Below w1.heap.size w1 wr) (fun _ i _ => no - (intOf i).toNat)
      case atStart => exact ⟨0, 0, 0, none, Nat.zero_le _, rfl, rfl, Own.nil _ _ _ _ _, Below.refl _ _⟩
      case round =>
        obtain ⟨j, n2, c2, A2, hj, rfl, rfl, hown2, hbel2⟩ := hrel
        have HO2 := Lib.hid hown2
        have HB2 := Lib.hid hbel2
        by_cases hlt2 : j < no
        · obtain ⟨b5, off5, y, rfl, hy, hb5, s0, -⟩ := SmpsAre.at_ HI.out hlt2
          have hji : (j : Int) < (no : Int) := by omega
          have HNy := Lib.hid (thinq_next hy)
          have HTl := Lib.hid (show ((thinq wd l).take j).length < 1000 from by rw [List.length_take]; omega)
          obtain ⟨yt, yv⟩ := y
          dsimp only at HNy s0
          have K5 := Lib.hid (fun (W : World) (h : Below w1.heap.size w1 W) => (h.cell (p := ⟨b5, off5 + j * 2, none⟩) hb5).trans s0)
          obtain ⟨wo, rfl⟩ : ∃ wo : World, wo = wr := ⟨_, rfl⟩
          clear hy hb5 s0 hown2 hbel2
          go_wp2
          go_loopw [9, 10] (fun o i wr => ∃ (m n c : Nat) (Ao : Option Addr), m ≤ len ∧ i = .int .i64 m ∧ o = .slice Ao n c ∧ OwnS wr wo.heap.size (.slice Ao n c) (grp wd (l.take m) yt) ∧ Below wo.heap.size wo wr) (fun _ i _ => len - (intOf i).toNat)
          case atStart => exact ⟨0, 0, 0, none, Nat.zero_le _, rfl, rfl, Own.nil _ _ _ _ _, Below.refl _ _⟩
          case round =>
            obtain ⟨m, n3, c3, A3, hm, rfl, rfl, hown3, hbel3⟩ := hrel
            have HO3 := Lib.hid hown3
            have HB3 := Lib.hid hbel3
            have HBw := Lib.hid (HB2.out.trans (hbel3.mono HB2.out.size))
            by_cases hlt3 : m < len
            · obtain ⟨b6, off6, x, rfl, hx, hb6, d0, d1⟩ := SmpsAre.at_ (slice_keep HS.out (HB.out.trans (HBw.out.mono HB.out.size))) hlt3
              have s0 := K5.out _ HBw.out
              have hmi : (m : Int) < (len : Int) := by omega
              have HXg := Lib.hid (HG.out x (List.mem_of_getElem? hx))
              have HSt := Lib.hid (fun W => ref46_Start x.tick wd W HXg.out.1 HW.out)
              have HGn := Lib.hid (grp_next (wd := wd) yt hx)
              have HGl := Lib.hid (show (grp wd (l.take m) yt).length ≤ 200 from by have := grp_len wd (l.take m) yt; rw [List.length_take] at this; omega)
              obtain ⟨xt, xv⟩ := x
              dsimp only at HSt HGn d0 d1
              generalize startq xt wd = AT at *
              generalize grp wd (l.take m) yt = GL at *
              clear hx hown3 hbel3
              have hb6' := Lib.hid hb6
              have D0 := Lib.hid d0
              have D1 := Lib.hid d1
              clear hb6 d1
              by_cases he : AT = yt
              · have hd : (AT == yt) = true := by simpa using he
                have hGn2 := HGn.out
                rw [if_pos he] at hGn2
                have HGn2 := Lib.hid hGn2
                clear hGn2 HGn he
                focus (go_upto_region 14 with fail)
                go_quiet ((go_at_call 38; exact Calls.quiet_of_same ((HSt.out _).mono fun _ _ h => ⟨h.1, h.2.symm⟩)))
                have e0 := ((below_drewN (Below.refl wr.heap.size wr) nq).cell (p := ⟨b6, off6 + m * 2, none⟩) hb6'.out).trans D0.out
                have e1 := ((below_drewN (Below.refl wr.heap.size wr) nq).cell (p := ⟨b6, off6 + m * 2 + 1, none⟩) hb6'.out).trans D1.out
                have O4 := Lib.hid (HO3.out.call (below_drewN (Below.refl wr.heap.size wr) nq))
                have B4 := Lib.hid (below_drewN HB3.out nq)
                generalize wr.drewN nq = W4 at *
                go_wp2_with (at_builtin; refine push_smp _ rfl (.tmp 51) (.tmp 56) rfl wo.heap.size (.slice A3 n3 c3) GL rfl (O4.out.alloc _) W4.heap.size 65 1 ⟨xt, xv⟩ rfl (Blk.new W4 _ _) (by have := HGl.out; omega) (by have := B4.out.size; simp; omega) ?_; intro v' w5 ho5 hb5 hg5; obtain ⟨A5, n5, c5, rfl, -, -⟩ := ownS_isB ho5; have O5 := Lib.hid ho5; have B5 := Lib.hid ((B4.out.alloc B4.out.size _).trans hb5); clear ho5 hb5 hg5)
                go_roundw
                case rel => exact ⟨m + 1, n5, c5, A5, by omega, by go_num, rfl, by rw [HGn2.out]; exact O5.out, B5.out⟩
                case measure => simp [intOf]; omega
              · have hd : (AT == yt) = false := by simpa using he
                have hGn2 := HGn.out
                rw [if_neg he, List.append_nil] at hGn2
                have HGn2 := Lib.hid hGn2
                clear hGn2 HGn he
                focus (go_upto_region 14 with fail)
                go_quiet ((go_at_call 38; exact Calls.quiet_of_same ((HSt.out _).mono fun _ _ h => ⟨h.1, h.2.symm⟩)))
                go_wp2
                go_roundw
                case rel => exact ⟨m + 1, n3, c3, A3, by omega, by go_num, rfl, by rw [HGn2.out]; exact HO3.out.call (below_drewN (Below.refl wr.heap.size wr) nq), below_drewN HB3.out nq⟩
                case measure => simp [intOf]; omega
            · have hE : l.take m = l := List.take_of_length_le (by have := HL.out; omega)
              rw [hE] at HO3
              have hmi : (len : Int) ≤ (m : Int) := by omega
              obtain ⟨A4, n4, c4, he, hn4, hi4⟩ := ownS_isB HO3.out
              injection he with e1 e2 e3
              subst e1; subst e2; subst e3
              have HMe := Lib.hid (fun W hW => ref16_Mean A3 n3 c3 (grp wd l yt) W hW (grp_good HG.out yt) (by have := grp_len wd l yt; have := HL.out; omega))
              have HI4 := Lib.hid hi4
              have HOo := Lib.hid (HO2.out.call HB3.out)
              obtain ⟨M, hM⟩ : ∃ M, M = meanq (valq (grp wd l yt)) := ⟨_, rfl⟩
              rw [← hM] at HMe HNy
              generalize (thinq wd l).take j = TJ at *
              clear hE hown3 hbel3 hi4 hn4 hM
              focus (go_upto_region 16 with fail)
              have HT := Lib.hid (fun (k : Nat) (hk : (Value.slice A2 n2 c2).ownBlock = some k) => (World.ownsRow.lt HOo.out k hk).1)
              refine wp_region_any (by kernel_rfl) ?_; change wpAny _ _ _ _ _ _ _ (World.drew wr); refine any_of_anyG (late := fun _ => false) (S := fun wS => Upd (fun k => (Value.slice A2 n2 c2).ownBlock = some k) wr wS) _ _ _ _ ?_
              have S0 := (Upd.refl (fun k => (Value.slice A2 n2 c2).ownBlock = some k) wr).drew
              refine anyG_takes (is := [0, 1, 2, 3, 4]) (vs := [_, _, _, .pointer (some ⟨b5, off5 + j * 2, none⟩), .pointer (some ⟨b5, off5 + j * 2, none⟩)]) (m := 7) (listed2 := #[true, true, true, true, true, false, false, false, false, false, false, false]) (a2 := ⟨#[_, _, _, _, _, _, _, _, _, _, _, _, _, _, _, _, _, _, _, _, _, _, _, _, _, _, _, _, _, _, _, _, _, _, _, _, _, _, _, _, _, _, _, _, _, _, _, _, _, _, _, _, _, _, _, _, _, _, _, _, _, _, _, _, _, _, _, _, _, _], []⟩) (by kernel_rfl) (fun j hj => by simp at hj) (by kernel_rfl) (fun _ _ _ _ _ h => h) (Ys.cons rfl (Or.inl ⟨by rfl, fun W1 hW1 => by first | rfl | (go_simp; done) | (go_simp; with_reducible rfl)⟩) (Ys.cons rfl (Or.inl ⟨by rfl, fun W1 hW1 => by first | rfl | (go_simp; done) | (go_simp; with_reducible rfl)⟩) (Ys.cons rfl (Or.inl ⟨by rfl, fun W1 hW1 => by first | rfl | (go_simp; done) | (go_simp; with_reducible rfl)⟩) (Ys.cons rfl (Or.inl ⟨by rfl, fun W1 hW1 => by go_simp⟩) (Ys.cons rfl (Or.inl ⟨by rfl, fun W1 hW1 => by first | rfl | (go_simp; done) | kernel_rfl⟩) (Ys.nil)))))) (S0) (by rfl) (by rfl) ?_
              refine anyG_takes (is := [5, 6]) (vs := [.int .i64 yt, _]) (m := 5) (listed2 := #[true, true, true, true, true, true, true, false, false, false, false, false]) (a2 := ⟨#[_, _, _, _, _, _, _, _, _, _, _, _, _, _, _, _, _, _, _, _, _, _, _, _, _, _, _, _, _, _, _, _, _, _, _, _, _, _, _, _, _, _, _, _, _, _, _, _, _, _, _, _, _, _, _, _, _, _, _, _, _, _, _, _, _, _, _, _, _, _], []⟩) (by kernel_rfl) (fun j hj => by simp at hj) (by kernel_rfl) (fun _ _ _ _ _ h => h) (Ys.cons rfl (Or.inl ⟨by rfl, fun W1 hW1 => by have c := K5.out _ (HBw.out.trans (hW1.below HT.out HBw.out.size)); go_simp⟩) (Ys.cons rfl (Or.inl ⟨by rfl, fun W1 hW1 => by first | rfl | (go_simp; done) | (go_simp; with_reducible rfl)⟩) (Ys.nil))) (S0) (by rfl) (by rfl) ?_
              refine anyG_one (k := 7) (by kernel_rfl) rfl (by rfl) (fun Q2 hQ2 => ?_); go_wp2_with (go_at_call 81; refine (HMe.out _ (slice_keep HI4.out (Below.refl wr.heap.size wr).drew)).mono ?_; rintro e v7 ⟨rfl, hb7⟩); refine hQ2 _ _ (fun _ => S0.call hb7) ?_; clear hQ2 Q2
              have S7 := S0.call hb7
              refine anyG_takes (is := [8]) (vs := [.agg #[.int .i64 yt, .int .i64 M]]) (m := 3) (listed2 := #[true, true, true, true, true, true, true, true, true, false, false, false]) (a2 := ⟨#[_, _, _, _, _, _, _, _, _, _, _, _, _, _, _, _, _, _, _, _, _, _, _, _, _, _, _, _, _, _, _, _, _, _, _, _, _, _, _, _, _, _, _, _, _, _, _, _, _, _, _, _, _, _, _, _, _, _, _, _, _, _, _, _, _, _, _, _, _, _], []⟩) (by kernel_rfl) (fun j hj => by simp at hj) (by kernel_rfl) (fun _ _ _ _ _ h => h) (Ys.cons rfl (Or.inl ⟨by rfl, fun W1 hW1 => by first | rfl | (go_simp; done) | kernel_rfl⟩) (Ys.nil)) (S7) (by rfl) (by rfl) ?_
              refine anyG_one (k := 9) (by kernel_rfl) rfl (by rfl) (fun Q2 hQ2 => ?_)
              have nG := new_atU (S := S7) (#[.int .i64 yt, .int .i64 M]) 65
              obtain ⟨G, hG, bG, lG⟩ := nG
              go_wp2_with fail
              refine hQ2 _ _ (fun _ => S7.alloc _) ?_
              clear hQ2 Q2
              (try simp only [hG])
              clear hG
              have SG := S7.alloc (.cells (#[.int .i64 yt, .int .i64 M]) 65)
              refine anyG_one (k := 10) (by kernel_rfl) rfl (by rfl) (fun Q2 hQ2 => ?_); go_wp2_with (refine wpList_push2 _ rfl (.tmp 58) (.tmp 67) 48 rfl w1.heap.size 65 _ 2 16 Smp.cells Try.underlying48 info_smp (by rfl) (by decide) (fun _ => rfl) smp_one (.slice A2 n2 c2) TJ rfl (((Own.drewN_ HOo.out 1).call hb7).alloc _) ⟨G, 0, none⟩ 1 ⟨yt, M⟩ rfl (blk_news (α := Smp) (vs := [Value.int .i64 yt, Value.int .i64 M]) (bG) rfl) (by have := HTl.out; omega) (by decide) (by have := HBw.out.size; have := (SG).size; simp at *; omega) ?_; intro v5 w5 ho5 hu5 hw5; obtain ⟨A5, n5, c5, rfl, -, -⟩ := ownS_isB ho5); refine hQ2 _ _ (fun _ => SG.trans hu5 (fun k hk => .inl hk)) ?_; clear hQ2 Q2
              have S5 := SG.trans hu5 (fun k hk => .inl hk)
              refine anyG_takes (is := [11]) (vs := [.slice A5 n5 c5]) (m := 0) (listed2 := #[true, true, true, true, true, true, true, true, true, true, true, true]) (a2 := ⟨#[_, _, _, _, _, _, _, _, _, _, _, _, _, _, _, _, _, _, _, _, _, _, _, _, _, _, _, _, _, _, _, _, _, _, _, _, _, _, _, _, _, _, _, _, _, _, _, _, _, _, _, _, _, _, _, _, _, _, _, _, _, _, _, _, _, _, _, _, _, _], []⟩) (by kernel_rfl) (fun j hj => by simp at hj) (by kernel_rfl) (fun _ _ _ _ _ h => h) (Ys.cons rfl (Or.inl ⟨by rfl, fun W1 hW1 => by rfl⟩) (Ys.nil)) (S5) (by rfl) (by rfl) ?_
              refine anyG_done (by kernel_rfl) ?_ _
              have O6 := Lib.hid (show OwnS w5 w1.heap.size (.slice A5 n5 c5) ((thinq wd l).take (j + 1)) from by rw [HNy.out]; exact ho5)
              have B6 := Lib.hid (HBw.out.trans ((S5).below HT.out HBw.out.size))
              clear ho5 hu5 hw5
              go_wp2
              go_roundw
              case rel => exact ⟨j + 1, n5, c5, A5, by omega, by go_num, rfl, O6.out, B6.out⟩
              case measure => simp [intOf]; omega
        · have hE : (thinq wd l).take j = thinq wd l := List.take_of_length_le (by unfold thinq; rw [List.length_map]; have := HN1.out; omega)
          rw [hE] at HO2
          have hji : (no : Int) ≤ (j : Int) := by omega
          clear hE hown2 hbel2
          go_wp2
          go_ret
          exact ⟨_, _, _, rfl, HO2.out.mono HB.out.size, HB.out.trans (HB2.out.mono HB.out.size)⟩
end Go.Proofs.Ytkjmacdekfbfhaa
