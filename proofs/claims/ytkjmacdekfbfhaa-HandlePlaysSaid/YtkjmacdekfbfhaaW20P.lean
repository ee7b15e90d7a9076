/- HandlePlays: the walk. -/
import Derived.Test.YtkjmacdekfbfhaaHandS2
import Derived.Test.YtkjmacdekfbfhaaW20
namespace Go.Proofs.Ytkjmacdekfbfhaa
open Go.RowKit
set_option linter.unusedSimpArgs false
set_option linter.unusedVariables false
set_option maxHeartbeats 8000000
set_option maxRecDepth 100000
structure PlH (w wr : World) (g b g4 : Nat) (fp : Int → Option Nat) (ks E : List Int) (v : Value) : Prop where
  st : HSt w wr g b fp ks E
  bx : Blk wr g4 t20 (rowV v)
  own : OwnI wr (g4 + 1) v E
  gl : g < g4
  bl : b < g4
theorem PlH.call {w wr w' : World} {g b g4 : Nat} {fp : Int → Option Nat} {ks E : List Int} {v : Value} (h : PlH w wr g b g4 fp ks E v) (hb : Below wr.heap.size wr w') : PlH w w' g b g4 fp ks E v :=
  ⟨h.st.call hb, h.bx.call hb, h.own.call hb, h.gl, h.bl⟩
abbrev tHAct : TypeId := 88
theorem findq_z {l : List Int} {n : Int} (h : findq l n = 0) : ∃ m : Nat, n = (m : Int) + 1 ∧ m < l.length := by
  unfold findq at h
  by_cases d : n < 1 ∨ (l.length : Int) < n
  · rw [if_pos d] at h; cases h
  · exact ⟨(n - 1).toNat, by omega, by omega⟩
theorem OwnI.is {w : World} {base n c : Nat} {A : Option Addr} {l : List Int} (h : OwnI w base (.slice A n c) l) : IntsAre w A n c l := by
  obtain ⟨A', n', c', e, -, hs⟩ := h.shape (fun _ => rfl)
  injection e with e1 e2 e3
  subst e1; subst e2; subst e3
  exact hs
theorem PlH.stored {w w5 w6 : World} {g b g4 : Nat} {fp : Int → Option Nat} {ks E : List Int} {v v' : Value} (h : HSt w w5 g b fp ks E) (hg : g < g4) (hb : b < g4) (hx : Blk w5 g4 t20 (rowV v)) (ho : OwnI w5 (g4 + 1) v' E) (hx6 : Blk w6 g4 t20 (rowV v')) (hg6 : w5.grownBy w6 (some g4)) : PlH w w6 g b g4 fp ks E v' :=
  ⟨h.upd (S := fun k => k = g4) (B := g4) ((Upd.refl _ w5).grown hg6 (fun k e => by cases e; exact .inl rfl)) (fun k hk => by omega) hg hb (Nat.le_of_lt hx.lt) (fun k cs hk => by subst hk; exact Blk.ne_type hx (by decide)), hx6, ho.grown hg6 (fun k hk => by have := (World.ownsRow.lt ho k hk).1; omega), hg, hb⟩
theorem OwnI.no_cut {w : World} {base : Nat} {v : Value} {l : List Int} (h : OwnI w base v l) (k : Nat) (hk : v.ownBlock = some k) (cs : Array Value) : ¬ Blk w k tCut cs := fun hb => by
  rcases h.2 with ⟨rfl, -⟩ | ⟨g, cap, cur, rfl, -, hg, -⟩
  · cases hk
  · cases hk
    have e := Eq.trans (Eq.symm hb) hg
    injection e with e
    injection e with _ e2
    exact absurd e2 (by decide)
theorem PlH.push {w w5 W : World} {g b g4 : Nat} {fp : Int → Option Nat} {ks E E' : List Int} {v v' : Value} (h : HSt w w5 g b fp ks E') (hg : g < g4) (hb : b < g4) (hx : Blk w5 g4 t20 (rowV v)) (ho : OwnI w5 (g4 + 1) v E) (hu : Upd (fun k => v.ownBlock = some k) w5 W) (ho' : OwnI W (g4 + 1) v' E') :
    PlH w (W.setCell ⟨g4, 0, none⟩ v') g b g4 fp ks E' v' ∧ W.cell? ⟨g4, 0, none⟩ = some v ∧ W.frozen? ⟨g4, 0, none⟩ = false := by
  have hl := hx.lt
  have h1 := h.upd hu (B := g4 + 1) (fun k hk => (World.ownsRow.lt ho k hk).1) (by omega) (by omega) hl (fun k cs hk => OwnI.no_cut ho k hk cs)
  have hx1 : Blk W g4 t20 (rowV v) := hx.upd hu (fun hk => by have := (World.ownsRow.lt ho _ hk).1; omega)
  refine ⟨⟨h1.upd (S := fun k => k = g4) (B := g4) ((Upd.refl (fun k => k = g4) W).setCell (p := ⟨g4, 0, none⟩) (.inl rfl) v') (fun k hk => by omega) hg hb (Nat.le_of_lt hx1.lt) (fun k cs hk => by subst hk; exact Blk.ne_type hx1 (by decide)), hx1.set_ 0 _, ho'.far (fun k hk e => ?_) _, hg, hb⟩, hx1.cellv rfl, hx1.frozen _⟩
  have := (World.ownsRow.lt ho' k hk).1
  have e2 : k = g4 := e
  omega
theorem walk_HandlePlays (C : Option Addr) (len cap : Nat) (acts : List HAct) (w : World) (hs : HActsAre w C len cap acts) (hg : ∀ x ∈ acts, x.good) :
    Calls Try.prog 12 #[.slice C len cap] w fun e w' => e = .returned (.bool true) ∧ Below w.heap.size w w' := by
  have HS := Lib.hid hs
  have HL := Lib.hid hs.1
  have HG := Lib.hid hg
  have hle : len ≤ cap := hs.2.1
  have hm : cap ≤ 9223372036854775807 := by have := hs.2.2.1; unfold maxLen at this; omega
  clear hs hg
  by_cases hl : 80 < len
  · have d0 : decide ((80 : Int) < (len : Int)) = true := by simp; omega
    go_enter Try.func12, Try.ntmps12
    go_wp2_with (go_at_call 42; refine (awake20 _).mono ?_; rintro e v1 ⟨rfl, hb1⟩)
    go_ret
    exact ⟨rfl, hb1⟩
  have d0 : decide ((80 : Int) < (len : Int)) = false := by simp; omega
  have HLe := Lib.hid (show len ≤ 80 by omega)
  clear hl
  go_enter Try.func12, Try.ntmps12
  go_wp2_with (first
    | (go_at_call 42; refine (awake20 _).mono ?_; rintro e v1 ⟨rfl, hb1⟩; have D1 := Lib.hid hb1; clear hb1)
    | (go_at_call 48; refine (handle_New _).mono ?_; rintro e v2 ⟨rfl, ht2, hb2⟩; have T2 := Lib.hid ht2; have D2 := Lib.hid hb2; clear ht2 hb2))
  have hv2 := T2.out.1.lt
  have P0 := Lib.hid (show PlH w (v2.alloc (.cells (rowV (.slice none 0 0)) t20)) (v1.heap.size + 1) v1.heap.size v2.heap.size (fun _ => none) [] [] (.slice none 0 0) from
    ⟨(HSt.start T2.out (D1.out.trans (D2.out.mono D1.out.size)) (by have := D1.out.size; omega) D1.out.size).call ((Below.refl _ _).alloc (Nat.le_refl _) _), Blk.new v2 _ _, Own.nil _ _ _ _ _, hv2, by omega⟩)
  clear hv2
  go_loopw [20] (fun i wr => ∃ k : Nat, ∃ fp ks E v, k ≤ len ∧ i = .int .i64 k ∧ E.length ≤ k ∧ PlH w wr (v1.heap.size + 1) v1.heap.size v2.heap.size fp ks E v) (fun i _ => len - (intOf i).toNat)
  case atStart => exact ⟨0, _, _, _, _, Nat.zero_le _, rfl, Nat.le_refl _, P0.out⟩
  case round =>
    obtain ⟨k, fp, ks, E, v, hk, rfl, hEk, hin⟩ := hrel
    have HI := Lib.hid hin
    obtain ⟨A2, n2, c2, rfl, rfl, hE⟩ := hin.own.shape (fun _ => rfl)
    by_cases hlt : k < len
    · obtain ⟨bb, off, ⟨xk, xn⟩, rfl, hx, hbb, t0, t1⟩ := HActsAre.at_ HS.out hlt
      have kt0 := (hin.st.bel.cell (p := ⟨bb, off + k * 2, none⟩) hbb).trans t0
      have kt1 := (hin.st.bel.cell (p := ⟨bb, off + k * 2 + 1, none⟩) hbb).trans t1
      have HGx := Lib.hid (HG.out _ (List.mem_of_getElem? hx)).2
      have hki : (k : Int) < (len : Int) := by omega
      have HEn := Lib.hid (show E.length ≤ 80 by have := HLe.out; omega)
      have I1 := Lib.hid (hin.call (w' := wr.alloc (.cells #[.int .i64 xk, .int .i64 xn] tHAct)) ((Below.refl _ _).alloc (Nat.le_refl _) _))
      have BX := Lib.hid (Blk.new wr tHAct #[.int .i64 xk, .int .i64 xn])
      have HgW := Lib.hid (show v2.heap.size < wr.heap.size from hin.bx.lt)
      dsimp only at kt0 kt1 HGx
      clear hx hbb t0 t1 hin hE
      by_cases c1 : xk = 1
      · subst c1
        have dk1 : ((1 : Int) == 1) = true := rfl
        by_cases hf : findq E xn = 0
        · obtain ⟨m, rfl, hmE⟩ := findq_z hf
          have HF := Lib.hid (handle_Free _ _ fp ks _ _ _ I1.out.st.tab HGx.out (by rw [I1.out.st.find]; exact hf))
          have Hf := Lib.hid hf
          have HmE := Lib.hid hmE
          clear hf hmE
          go_wp2_with fail
          with_reducible (refine Calls.mono HF.out ?_)
          rintro e w3 ⟨rfl, ht3, hg3⟩
          have S3 := Lib.hid (I1.out.st.free HmE.out ht3 hg3)
          have X3 := Lib.hid (I1.out.bx.grown hg3 (fun e => by have := I1.out.bl; injection e with e; omega))
          have O3 := Lib.hid (I1.out.own.grown hg3 (fun k hk => by have := (World.ownsRow.lt I1.out.own k hk).1; have := I1.out.bl; omega))
          have B3 := Lib.hid (BX.out.grown hg3 (fun e => by have := I1.out.bl; have := HgW.out; injection e with e; omega))
          have x1 := B3.out.cellv (i := 1) (v := .int .i64 ((m : Int) + 1)) rfl
          have HFi := ref20_Find A2 _ c2 E ((m : Int) + 1) w3 (OwnI.is O3.out) (by have := HEn.out; omega) HGx.out
          rw [Hf.out] at HFi
          have HFi := Lib.hid HFi
          clear ht3 hg3 kt0 kt1
          go_wp2_with (refine Blk.load rfl t20 _ rfl v2.heap.size t20 (rowV (.slice A2 E.length c2)) _ rfl X3.out Try.underlying86 rfl (by kernel_rfl) ?_)
          with_reducible (refine Calls.mono HFi.out ?_)
          rintro e w4 ⟨rfl, hb4⟩
          have S4 := Lib.hid (S3.out.call hb4)
          have X4 := Lib.hid (X3.out.call hb4)
          have O4 := Lib.hid (O3.out.call hb4)
          have x4 := (B3.out.call hb4).cellv (i := 1) (v := .int .i64 ((m : Int) + 1)) rfl
          have HFr := Lib.hid (ref20_Free A2 _ c2 E m w4 (OwnI.is O4.out) (by have := HEn.out; omega) (by have := HEn.out; have := HmE.out; omega))
          clear x1 hb4
          go_wp2_with (refine Blk.load rfl t20 _ rfl v2.heap.size t20 (rowV (.slice A2 E.length c2)) _ rfl X4.out Try.underlying86 rfl (by kernel_rfl) ?_)
          with_reducible (refine Calls.mono HFr.out ?_)
          rintro e w5 ⟨v5, rfl, ho5, hb5⟩
          obtain ⟨A5, n5, c5, rfl, -, -⟩ := ho5.shape (fun _ => rfl)
          have hz4 := X4.out.lt
          have S5 := Lib.hid (S4.out.call hb5)
          have X5 := Lib.hid (X4.out.call hb5)
          have O5 := Lib.hid (ho5.mono (show v2.heap.size + 1 ≤ w4.heap.size by omega))
          clear x4 hb5 ho5 hz4
          go_wp2_with (refine wpList_store_row rfl t20 _ _ rfl v2.heap.size t20 _ (rowV (.slice A5 n5 c5)) rfl rfl X5.out (by rfl) (by kernel_rfl) (by simp [Value.oneCell']) ?_; intro w6 hb6 hg6; have P6 := Lib.hid (PlH.stored S5.out I1.out.gl I1.out.bl X5.out O5.out hb6 hg6); clear hb6 hg6)
          go_roundw
          case rel => exact ⟨k + 1, _, _, _, _, by omega, by go_num, by rw [List.length_set]; omega, P6.out⟩
          case measure => simp [intOf]; omega
        · have HF := handle_Free_no _ _ fp ks _ xn _ I1.out.st.tab HGx.out (by rw [I1.out.st.find]; exact hf)
          rw [I1.out.st.find] at HF
          have HF := Lib.hid HF
          have HFi := Lib.hid (ref20_Find A2 _ c2 E xn _ (OwnI.is I1.out.own) (by have := HEn.out; omega) HGx.out)
          have x1 := BX.out.cellv (i := 1) (v := .int .i64 xn) rfl
          generalize hF : findq E xn = F at *
          have df : (F == 0) = false := by simpa using hf
          clear hf hF
          go_wp2_with fail
          with_reducible (refine Calls.mono HF.out ?_)
          rintro e w3 ⟨rfl, rfl⟩
          go_wp2_with (refine Blk.load rfl t20 _ rfl v2.heap.size t20 (rowV (.slice A2 E.length c2)) _ rfl I1.out.bx Try.underlying86 rfl (by kernel_rfl) ?_)
          with_reducible (refine Calls.mono HFi.out ?_)
          rintro e w4 ⟨rfl, hb4⟩
          have P4 := Lib.hid (I1.out.call hb4)
          clear hb4
          go_wp2
          go_roundw
          case rel => exact ⟨k + 1, _, _, _, _, by omega, by go_num, by omega, P4.out⟩
          case measure => simp [intOf]; omega
      · have dk1 : (xk == 1) = false := by simpa using c1
        clear c1
        by_cases c2 : xk = 2
        · subst c2
          have dk2 : ((2 : Int) == 2) = true := rfl
          have HF := Lib.hid (handle_Open_none _ _ fp ks _ _ I1.out.st.tab (by omega))
          go_wp2_with fail
          with_reducible (refine Calls.mono HF.out ?_)
          rintro e w3 ⟨rfl, rfl⟩
          go_wp2
          go_roundw
          case rel => exact ⟨k + 1, _, _, _, _, by omega, by go_num, by omega, I1.out⟩
          case measure => simp [intOf]; omega
        · have dk2 : (xk == 2) = false := by simpa using c2
          clear c2
          go_wp2_with fail
          with_reducible (refine Calls.mono (cut_New (k : Int) _) ?_)
          rintro e w3 ⟨g3, rfl, hg3, hbk3, hb3⟩
          have I3 := Lib.hid (I1.out.call hb3)
          have G3 := Lib.hid (show v2.heap.size < g3 by have := HgW.out; simp at hg3; omega)
          have HO3 := Lib.hid (OwnI.is I3.out.own)
          have HL3 := Lib.hid I3.out.st.len
          by_cases hf : 64 ≤ liveq E
          · have HF := Lib.hid (handle_Open_full _ _ g3 fp ks _ _ I3.out.st.tab (by omega) (by have := HL3.out; omega))
            have HLv := Lib.hid (ref20_Live A2 _ c2 E w3 HO3.out (by have := HEn.out; omega))
            have dl : decide (64 ≤ liveq E) = true := by simpa using hf
            clear hf hb3 hbk3 hg3 kt0 kt1
            generalize liveq E = LV at *
            go_wp2_with fail
            with_reducible (refine Calls.mono HF.out ?_)
            rintro e w4 ⟨rfl, rfl⟩
            go_wp2_with (refine Blk.load rfl t20 _ rfl v2.heap.size t20 (rowV (.slice A2 E.length c2)) _ rfl I3.out.bx Try.underlying86 rfl (by kernel_rfl) ?_)
            with_reducible (refine Calls.mono HLv.out ?_)
            rintro e w5 ⟨rfl, hb5⟩
            have P5 := Lib.hid (I3.out.call hb5)
            clear hb5
            go_wp2
            go_roundw
            case rel => exact ⟨k + 1, _, _, _, _, by omega, by go_num, by omega, P5.out⟩
            case measure => simp [intOf]; omega
          · have HF := Lib.hid (handle_Open _ _ g3 fp ks _ _ I3.out.st.tab (by omega) (by have := HEn.out; omega) (by have := HL3.out; omega))
            have dl : decide (64 ≤ liveq E) = false := by simpa using hf
            have B3 := Lib.hid hbk3
            clear hf hb3 hbk3 hg3 kt0 kt1
            generalize hLV : liveq E = LV at *
            go_wp2_with fail
            with_reducible (refine Calls.mono HF.out ?_)
            rintro e w4 ⟨rfl, ht4, hu4⟩
            have S4 := Lib.hid (I3.out.st.opens (e := (k : Int)) (by omega) B3.out (by have := G3.out; have := I3.out.gl; omega) (by have := G3.out; have := I3.out.bl; omega) ht4 hu4)
            have X4 := Lib.hid (I3.out.bx.upd hu4 (by have := I3.out.gl; have := I3.out.bl; omega))
            have O4 := Lib.hid (I3.out.own.upd hu4 (fun k hk => by have := (World.ownsRow.lt I3.out.own k hk).1; have := I3.out.gl; have := I3.out.bl; omega))
            have HLv := ref20_Live A2 _ c2 E w4 (OwnI.is O4.out) (by have := HEn.out; omega)
            rw [hLV] at HLv
            have HLv := Lib.hid HLv
            clear ht4 hu4 hLV
            go_wp2_with (refine Blk.load rfl t20 _ rfl v2.heap.size t20 (rowV (.slice A2 E.length c2)) _ rfl X4.out Try.underlying86 rfl (by kernel_rfl) ?_)
            with_reducible (refine Calls.mono HLv.out ?_)
            rintro e w5 ⟨rfl, hb5⟩
            have S5 := Lib.hid (S4.out.call hb5)
            have X5 := Lib.hid (X4.out.call hb5)
            have O5 := Lib.hid (O4.out.call hb5)
            have hsz : v2.heap.size + 1 ≤ w5.heap.size := X5.out.lt
            have c0 := X5.out.cellv (i := 0) (v := .slice A2 E.length c2) rfl
            clear hb5
            go_wp2_with (at_builtin; refine wpList_push2 _ rfl (.tmp 42) (.tmp 44) 52 rfl (v2.heap.size + 1) 2 _ 1 8 (fun n : Int => [Value.int .i64 n]) Try.underlying52 info_i64 (by rfl) (by decide) (fun _ => rfl) (fun _ u hu => by simp at hu; subst hu; rfl) (.slice A2 E.length c2) E rfl (O5.out.alloc _) ⟨w5.heap.size, 0, none⟩ 1 (k : Int) rfl (blk_news (α := Int) (vs := [Value.int .i64 (k : Int)]) (Blk.new w5 _ _) rfl) (by have := HEn.out; omega) (by decide) (by simp; omega) ?_; intro v' w6 ho6 hu6 hw6; obtain ⟨A6, n6, c6, rfl, hn6, -⟩ := ho6.shape (fun _ => rfl); (have hn7 : n6 = E.length + 1 := hn6.trans (by simp)); clear hn6; subst hn7; obtain ⟨p1, p2, p3⟩ := PlH.push (S5.out.call ((Below.refl _ _).alloc (Nat.le_refl _) _)) I3.out.gl I3.out.bl (X5.out.alloc _) (O5.out.alloc _) hu6 ho6; have P6 := Lib.hid p1; clear p1)
            go_roundw
            case rel => exact ⟨k + 1, _, _, E ++ [(k : Int)], _, by omega, by go_num, by rw [List.length_append]; simp; omega, P6.out⟩
            case measure => simp [intOf]; omega
    · obtain rfl : k = len := by omega
      have HSm := Lib.hid (show Calls Try.prog 52 #[.pointer (some ⟨v1.heap.size + 1, 0, none⟩), .agg (rowV (.slice A2 E.length c2))] wr (fun e w' => e = .returned (.bool true) ∧ Below wr.heap.size wr w') from law20_same w _ _ fp ks E A2 E.length c2 wr hin.st hE (by have := HLe.out; omega))
      have BX := Lib.hid hin.bx
      have DW := Lib.hid hin.st.bel
      clear hin hE
      go_wp2_with (first
        | (refine Blk.load rfl t20 (.tmp 4) rfl v2.heap.size t20 (rowV (.slice A2 E.length c2)) _ rfl BX.out Try.underlying86 rfl (by kernel_rfl) ?_)
        | (go_at_call 52; with_reducible (refine Calls.mono HSm.out ?_); rintro e w3 ⟨rfl, hb3⟩))
      go_ret
      exact ⟨rfl, DW.out.trans (hb3.mono DW.out.size)⟩
end Go.Proofs.Ytkjmacdekfbfhaa
