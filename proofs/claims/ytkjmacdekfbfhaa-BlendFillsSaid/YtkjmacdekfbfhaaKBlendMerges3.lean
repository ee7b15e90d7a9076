/- Several texts in one. -/
import Derived.Test.YtkjmacdekfbfhaaKBlendMerges1
import Derived.Test.YtkjmacdekfbfhaaKBlendMerges2
/- Chapter 46's example, and BlendMerges. -/
namespace Go.Proofs.Ytkjmacdekfbfhaa
open Go.RowKit
set_option linter.unusedSimpArgs false
set_option linter.unusedVariables false
set_option maxHeartbeats 4000000
set_option maxRecDepth 100000
abbrev tSl : TypeId := 48
def MgP (W : World) (l : List Smp) (e : Ending) (w' : World) : Prop := ∃ A n c, e = .returned (.slice A n c) ∧ SmpsAre w' A n c l ∧ Below W.heap.size W w'
theorem parts_at {W : World} {g : Nat} {cs : Array Value} (rows : List SRow) (n : Nat) (hn : rows.length = n) (hb : Blk W g tSl cs) (hc : cs = (rows.flatMap SRow.hdr).toArray) (hm : rows.length ≤ 100) (hr : ∀ r ∈ rows, SmpsAre W r.A r.n r.c r.l) : PartsS W (some ⟨g, 0, none⟩) n n rows := by
  subst hn
  exact ⟨slice_blk (fun _ => rfl) hb hc (by unfold maxLen; omega), hr⟩
theorem merge_at {W : World} {g : Nat} {cs : Array Value} (rows : List SRow) (n : Nat) (hn : rows.length = n) (hb : Blk W g tSl cs) (hc : cs = (rows.flatMap SRow.hdr).toArray) (hm : rows.length ≤ 100) (hr : ∀ r ∈ rows, SmpsAre W r.A r.n r.c r.l) (hg : ∀ r ∈ rows, ∀ x ∈ r.l, x.good) (hl : (allS rows).length ≤ 800) (L : List Smp) (hL : mrgq (allS rows) = L) :
    Calls Try.prog 32 #[.slice (some ⟨g, 0, none⟩) n n] W (MgP W L) := by
  subst hL
  refine (blend_Merge _ n n rows W (parts_at rows n hn hb hc hm hr) hg hl (by omega)).mono ?_
  rintro e w' ⟨v, rfl, ho, hb⟩
  obtain ⟨A, m, c, rfl, -, hs⟩ := ownS_isB ho
  exact ⟨A, m, c, rfl, hs, hb⟩
theorem rmerge_at {W : World} {g : Nat} {cs : Array Value} (rows : List SRow) (n : Nat) (hn : rows.length = n) (hb : Blk W g tSl cs) (hc : cs = (rows.flatMap SRow.hdr).toArray) (hm : rows.length ≤ 100) (hr : ∀ r ∈ rows, SmpsAre W r.A r.n r.c r.l) (hg : ∀ r ∈ rows, ∀ x ∈ r.l, x.good) (hl : (allS rows).length ≤ 800) (L : List Smp) (hL : mrgq (allS rows) = L) :
    Calls Try.prog 34 #[.slice (some ⟨g, 0, none⟩) n n] W (MgP W L) := by
  subst hL
  refine (ref46_Merge _ n n rows W (parts_at rows n hn hb hc hm hr) hg hl (by omega)).mono ?_
  rintro e w' ⟨A, m, c, rfl, ho, hb⟩
  obtain ⟨A', m', c', he, -, hs⟩ := ownS_isB ho
  injection he with e1 e2 e3
  subst e1; subst e2; subst e3
  exact ⟨A, m, c, rfl, hs, hb⟩
theorem PutP.is {W w' : World} {l : List Smp} {e : Ending} (h : PutP W l e w') : MgP W l e w' := by
  obtain ⟨A, m, c, rfl, ho, hb⟩ := h
  obtain ⟨A', m', c', he, -, hs⟩ := ownS_isB ho
  injection he with e1 e2 e3
  subst e1; subst e2; subst e3
  exact ⟨A, m, c, rfl, hs, hb⟩
theorem same_yes (A B : Option Addr) (la ca lb cb : Nat) (xs : List Smp) (w : World) (hx : SmpsAre w A la ca xs) (hy : SmpsAre w B lb cb xs) :
    Calls Try.prog 33 #[.slice A la ca, .slice B lb cb] w fun e w' => e = .returned (.bool true) ∧ Below w.heap.size w w' :=
  (ref08_Same A B la ca lb cb xs xs w hx hy).mono fun e w' h => ⟨by rw [h.1]; simp, h.2⟩
theorem Blk.new3 (w : World) (o o2 : Obj) (t : TypeId) (cs : Array Value) : Blk (((w.alloc o).alloc o2).alloc (.cells cs t)) (w.heap.size + 2) t cs := by
  have h := Blk.new ((w.alloc o).alloc o2) t cs
  simpa using h
theorem smps_blk {w : World} {g : Nat} {cs : Array Value} (l : List Smp) (n : Nat) (hn : l.length = n) (h : Blk w g 65 cs) (hc : cs = (l.flatMap Smp.cells).toArray) (hm : l.length ≤ 100) : SmpsAre w (some ⟨g, 0, none⟩) n n l := by
  subst hn
  exact slice_blk (fun _ => rfl) h hc (by unfold maxLen; omega)
theorem small_good {x : Smp} (h1 : -1000 ≤ x.tick ∧ x.tick ≤ 1000) (h2 : -1000 ≤ x.value ∧ x.value ≤ 1000) : x.good := ⟨by unfold I64; omega, by unfold I64; omega⟩
theorem awake46 (w : World) : Calls Try.prog 31 #[] w fun e w' => e = .returned (.bool true) ∧ Below w.heap.size w w' := by
  have G1 := Lib.hid (show ∀ r ∈ [(⟨some ⟨w.heap.size, 0, none⟩, 1, 1, [⟨1, 2⟩]⟩ : SRow), ⟨some ⟨w.heap.size + 1, 0, none⟩, 1, 1, [⟨1, 3⟩]⟩], ∀ x ∈ r.l, x.good from fun r hr x hx => by
    simp at hr
    rcases hr with rfl | rfl <;> (simp at hx; subst hx; exact small_good (by decide) (by decide)))
  have G2 := Lib.hid (show ∀ x ∈ [(⟨11, 1⟩ : Smp), ⟨12, 2⟩], x.good from fun x hx => by
    simp at hx
    rcases hx with rfl | rfl <;> exact small_good (by decide) (by decide))
  have Q1 := Lib.hid (show mrgq (allS [(⟨some ⟨w.heap.size, 0, none⟩, 1, 1, [⟨1, 2⟩]⟩ : SRow), ⟨some ⟨w.heap.size + 1, 0, none⟩, 1, 1, [⟨1, 3⟩]⟩]) = [⟨1, 5⟩] from by rfl)
  have Q2 := Lib.hid (show thinq 10 [(⟨11, 1⟩ : Smp), ⟨12, 2⟩] = [⟨10, 2⟩] from by decide)
  have Q3 := Lib.hid (show startq (-1) 10 = -10 from by decide)
  go_enter Try.func31, Try.ntmps31
  go_wp2_with fail
  refine (merge_at [(⟨some ⟨w.heap.size, 0, none⟩, 1, 1, [⟨1, 2⟩]⟩ : SRow), ⟨some ⟨w.heap.size + 1, 0, none⟩, 1, 1, [⟨1, 3⟩]⟩] 2 rfl (Blk.new3 w _ _ _ _) rfl (by simp) (fun r hr => by
    simp at hr
    rcases hr with rfl | rfl
    · exact smps_blk [⟨1, 2⟩] 1 rfl (((Blk.new w _ _).alloc _).alloc _) rfl (by decide)
    · exact smps_blk [⟨1, 3⟩] 1 rfl ((Blk.new2 w _ _ _).alloc _) rfl (by decide)) G1.out (by simp [allS]) _ Q1.out).mono ?_
  rintro e v1 ⟨A1, n1, c1, rfl, hs1, hb1⟩
  have E1 := Lib.hid ((show Below w.heap.size w (((w.alloc (.cells #[.int .i64 1, .int .i64 2] 65)).alloc (.cells #[.int .i64 1, .int .i64 3] 65)).alloc (.cells #[.slice (some ⟨w.heap.size, 0, none⟩) 1 1, .slice (some ⟨w.heap.size + 1, 0, none⟩) 1 1] tSl)) by go_grown).trans (hb1.mono (by simp; omega)))
  have S1 := Lib.hid hs1
  clear hs1 hb1
  go_wp2_with fail
  refine (blend_Thin (some ⟨v1.heap.size, 0, none⟩) 2 2 [⟨11, 1⟩, ⟨12, 2⟩] 10 _ (smps_blk [⟨11, 1⟩, ⟨12, 2⟩] 2 rfl (Blk.new v1 _ _) rfl (by decide)) G2.out (by decide) (by unfold I64; decide)).mono ?_
  rintro e v2 hq
  rw [Q2.out] at hq
  obtain ⟨A2, n2, c2, rfl, hs2, hb2⟩ := hq.is
  have E2 := Lib.hid (((Below.refl v1.heap.size v1).alloc (Nat.le_refl _) (.cells #[.int .i64 11, .int .i64 1, .int .i64 12, .int .i64 2] 65)).trans (hb2.mono (by simp)))
  have S2 := Lib.hid hs2
  have S3 := Lib.hid (slice_keep S1.out E2.out)
  have E3 := Lib.hid (E1.out.trans (E2.out.mono E1.out.size))
  clear hs2 hb2 hq
  go_wp2_with fail
  refine (same_yes _ _ _ _ _ _ [⟨1, 5⟩] _ (slice_keep S3.out ((Below.refl v2.heap.size v2).alloc (Nat.le_refl _) _)) (smps_blk [⟨1, 5⟩] 1 rfl (Blk.new v2 _ _) rfl (by decide))).mono ?_
  rintro e v3 ⟨rfl, hb3⟩
  have E4 := Lib.hid (((Below.refl v2.heap.size v2).alloc (Nat.le_refl _) (.cells #[.int .i64 1, .int .i64 5] 65)).trans (hb3.mono (by simp)))
  clear hb3
  go_wp2_with fail
  refine (blend_Start (-1) 10 _ (by unfold I64; decide) (by unfold I64; decide)).mono ?_
  rw [Q3.out]
  rintro e v4 ⟨rfl, rfl⟩
  go_wp2_with fail
  refine (same_yes _ _ _ _ _ _ [⟨10, 2⟩] _ (slice_keep (slice_keep S2.out E4.out) ((Below.refl v3.heap.size v3).alloc (Nat.le_refl _) _)) (smps_blk [⟨10, 2⟩] 1 rfl (Blk.new v3 _ _) rfl (by decide))).mono ?_
  rintro e v5 ⟨rfl, hb5⟩
  have E5 := Lib.hid (((Below.refl v3.heap.size v3).alloc (Nat.le_refl _) (.cells #[.int .i64 10, .int .i64 2] 65)).trans (hb5.mono (by simp)))
  have E6 := Lib.hid (E3.out.trans (E4.out.mono E3.out.size))
  clear hb5
  go_wp2
  go_ret
  exact ⟨rfl, E6.out.trans (E5.out.mono E6.out.size)⟩
end Go.Proofs.Ytkjmacdekfbfhaa
/- BlendMerges: the walk. -/
namespace Go.Proofs.Ytkjmacdekfbfhaa
open Go.RowKit
set_option linter.unusedSimpArgs false
set_option linter.unusedVariables false
set_option maxHeartbeats 4000000
set_option maxRecDepth 100000
theorem walk_BlendMerges (A : Option Addr) (len cap : Nat) (l : List Smp) (B : Option Addr) (len2 cap2 : Nat) (m : List Smp) (C : Option Addr) (len3 cap3 : Nat) (o : List Smp) (w : World) (hs : SmpsAre w A len cap l) (hg : ∀ x ∈ l, x.good) (hs2 : SmpsAre w B len2 cap2 m) (hg2 : ∀ x ∈ m, x.good) (hs3 : SmpsAre w C len3 cap3 o) (hg3 : ∀ x ∈ o, x.good) :
    Calls Try.prog 8 #[.slice A len cap, .slice B len2 cap2, .slice C len3 cap3] w fun e w' => e = .returned (.bool true) ∧ Below w.heap.size w w' := by
  have HS := Lib.hid hs
  have HS2 := Lib.hid hs2
  have HS3 := Lib.hid hs3
  have HL := Lib.hid hs.1
  have HL2 := Lib.hid hs2.1
  have HL3 := Lib.hid hs3.1
  have hle : len ≤ cap := hs.2.1
  have hm : cap ≤ 9223372036854775807 := by have := hs.2.2.1; unfold maxLen at this; omega
  have hle2 : len2 ≤ cap2 := hs2.2.1
  have hm2 : cap2 ≤ 9223372036854775807 := by have := hs2.2.2.1; unfold maxLen at this; omega
  have hle3 : len3 ≤ cap3 := hs3.2.1
  have hm3 : cap3 ≤ 9223372036854775807 := by have := hs3.2.2.1; unfold maxLen at this; omega
  have R1 := Lib.hid (mrg_rot hg hg2 hg3)
  have R2 := Lib.hid (mrg_nest hg hg2 hg3)
  have HGl := Lib.hid hg
  have HGm := Lib.hid hg2
  have HGo := Lib.hid hg3
  have HGab := Lib.hid (mrgq_good (l := l ++ m) (fun x hx => (List.mem_append.1 hx).elim (hg x) (hg2 x)))
  have HLab := Lib.hid (mrgq_len (l ++ m))
  clear hs hs2 hs3 hg hg2 hg3
  go_enter Try.func8, Try.ntmps8
  go_wp2_with fail
  refine (awake46 _).mono ?_
  rintro e v1 ⟨rfl, hb1⟩
  have E1 := Lib.hid hb1
  clear hb1
  by_cases hl : 40 < len
  · go_wp2
    go_ret
    exact ⟨rfl, E1.out⟩
  by_cases hl2 : 40 < len2
  · go_wp2
    go_ret
    exact ⟨rfl, E1.out⟩
  by_cases hl3 : 40 < len3
  · go_wp2
    go_ret
    exact ⟨rfl, E1.out⟩
  have HN := Lib.hid (show l.length + m.length + o.length ≤ 120 from by have := HL.out; have := HL2.out; have := HL3.out; omega)
  have T1 := Lib.hid (slice_keep HS.out E1.out)
  have T2 := Lib.hid (slice_keep HS2.out E1.out)
  have T3 := Lib.hid (slice_keep HS3.out E1.out)
  go_wp2_with fail
  refine (merge_at [(⟨A, len, cap, l⟩ : SRow), ⟨B, len2, cap2, m⟩, ⟨C, len3, cap3, o⟩] 3 rfl (Blk.new v1 _ _) rfl (by simp) (fun r hr => by
    have hk := (Below.refl v1.heap.size v1).alloc (Nat.le_refl _) (.cells #[.slice A len cap, .slice B len2 cap2, .slice C len3 cap3] tSl)
    simp at hr
    rcases hr with rfl | rfl | rfl
    · exact slice_keep T1.out hk
    · exact slice_keep T2.out hk
    · exact slice_keep T3.out hk) (fun r hr => by
    simp at hr
    rcases hr with rfl | rfl | rfl
    · exact HGl.out
    · exact HGm.out
    · exact HGo.out) (by simp [allS]; have := HN.out; omega) (mrgq (l ++ m ++ o)) (by simp [allS])).mono ?_
  rintro e v2 ⟨A2, n2, c2, rfl, hs2, hb2⟩
  have E2 := Lib.hid (((Below.refl v1.heap.size v1).alloc (Nat.le_refl _) (.cells #[.slice A len cap, .slice B len2 cap2, .slice C len3 cap3] tSl)).trans (hb2.mono (by simp)))
  have S2 := Lib.hid hs2
  have T1 := Lib.hid (slice_keep T1.out E2.out)
  have T2 := Lib.hid (slice_keep T2.out E2.out)
  have T3 := Lib.hid (slice_keep T3.out E2.out)
  have E2 := Lib.hid (E1.out.trans (E2.out.mono E1.out.size))
  clear hs2 hb2
  go_wp2_with fail
  refine (rmerge_at [(⟨A, len, cap, l⟩ : SRow), ⟨B, len2, cap2, m⟩, ⟨C, len3, cap3, o⟩] 3 rfl (Blk.new v2 _ _) rfl (by simp) (fun r hr => by
    have hk := (Below.refl v2.heap.size v2).alloc (Nat.le_refl _) (.cells #[.slice A len cap, .slice B len2 cap2, .slice C len3 cap3] tSl)
    simp at hr
    rcases hr with rfl | rfl | rfl
    · exact slice_keep T1.out hk
    · exact slice_keep T2.out hk
    · exact slice_keep T3.out hk) (fun r hr => by
    simp at hr
    rcases hr with rfl | rfl | rfl
    · exact HGl.out
    · exact HGm.out
    · exact HGo.out) (by simp [allS]; have := HN.out; omega) (mrgq (l ++ m ++ o)) (by simp [allS])).mono ?_
  rintro e v3 ⟨A3, n3, c3, rfl, hs3, hb3⟩
  have E3 := Lib.hid (((Below.refl v2.heap.size v2).alloc (Nat.le_refl _) (.cells #[.slice A len cap, .slice B len2 cap2, .slice C len3 cap3] tSl)).trans (hb3.mono (by simp)))
  have S3 := Lib.hid hs3
  have S2 := Lib.hid (slice_keep S2.out E3.out)
  have T1 := Lib.hid (slice_keep T1.out E3.out)
  have T2 := Lib.hid (slice_keep T2.out E3.out)
  have T3 := Lib.hid (slice_keep T3.out E3.out)
  have E3 := Lib.hid (E2.out.trans (E3.out.mono E2.out.size))
  clear hs3 hb3
  go_wp2_with fail
  refine (same_yes _ _ _ _ _ _ _ _ S2.out S3.out).mono ?_
  rintro e v4 ⟨rfl, hb4⟩
  have S2 := Lib.hid (slice_keep S2.out hb4)
  have T1 := Lib.hid (slice_keep T1.out hb4)
  have T2 := Lib.hid (slice_keep T2.out hb4)
  have T3 := Lib.hid (slice_keep T3.out hb4)
  have E4 := Lib.hid (E3.out.trans (hb4.mono E3.out.size))
  clear hb4
  go_wp2_with fail
  refine (merge_at [(⟨C, len3, cap3, o⟩ : SRow), ⟨A, len, cap, l⟩, ⟨B, len2, cap2, m⟩] 3 rfl (Blk.new v4 _ _) rfl (by simp) (fun r hr => by
    have hk := (Below.refl v4.heap.size v4).alloc (Nat.le_refl _) (.cells #[.slice C len3 cap3, .slice A len cap, .slice B len2 cap2] tSl)
    simp at hr
    rcases hr with rfl | rfl | rfl
    · exact slice_keep T3.out hk
    · exact slice_keep T1.out hk
    · exact slice_keep T2.out hk) (fun r hr => by
    simp at hr
    rcases hr with rfl | rfl | rfl
    · exact HGo.out
    · exact HGl.out
    · exact HGm.out) (by simp [allS]; have := HN.out; omega) (mrgq (l ++ m ++ o)) (by rw [← R1.out]; simp [allS])).mono ?_
  rintro e v5 ⟨A5, n5, c5, rfl, hs5, hb5⟩
  have E5 := Lib.hid (((Below.refl v4.heap.size v4).alloc (Nat.le_refl _) (.cells #[.slice C len3 cap3, .slice A len cap, .slice B len2 cap2] tSl)).trans (hb5.mono (by simp)))
  have S5 := Lib.hid hs5
  have S2 := Lib.hid (slice_keep S2.out E5.out)
  have T1 := Lib.hid (slice_keep T1.out E5.out)
  have T2 := Lib.hid (slice_keep T2.out E5.out)
  have T3 := Lib.hid (slice_keep T3.out E5.out)
  have E5 := Lib.hid (E4.out.trans (E5.out.mono E4.out.size))
  clear hs5 hb5
  go_wp2_with fail
  refine (same_yes _ _ _ _ _ _ _ _ S2.out S5.out).mono ?_
  rintro e v6 ⟨rfl, hb6⟩
  have S2 := Lib.hid (slice_keep S2.out hb6)
  have T1 := Lib.hid (slice_keep T1.out hb6)
  have T2 := Lib.hid (slice_keep T2.out hb6)
  have T3 := Lib.hid (slice_keep T3.out hb6)
  have E6 := Lib.hid (E5.out.trans (hb6.mono E5.out.size))
  clear hb6
  go_wp2_with fail
  refine (merge_at [(⟨A, len, cap, l⟩ : SRow), ⟨B, len2, cap2, m⟩] 2 rfl (Blk.new v6 _ _) rfl (by simp) (fun r hr => by
    have hk := (Below.refl v6.heap.size v6).alloc (Nat.le_refl _) (.cells #[.slice A len cap, .slice B len2 cap2] tSl)
    simp at hr
    rcases hr with rfl | rfl
    · exact slice_keep T1.out hk
    · exact slice_keep T2.out hk) (fun r hr => by
    simp at hr
    rcases hr with rfl | rfl
    · exact HGl.out
    · exact HGm.out) (by simp [allS]; have := HN.out; omega) (mrgq (l ++ m)) (by simp [allS])).mono ?_
  rintro e v7 ⟨A7, n7, c7, rfl, hs7, hb7⟩
  have E7 := Lib.hid (((Below.refl v6.heap.size v6).alloc (Nat.le_refl _) (.cells #[.slice A len cap, .slice B len2 cap2] tSl)).trans (hb7.mono (by simp)))
  have S7 := Lib.hid hs7
  have S2 := Lib.hid (slice_keep S2.out E7.out)
  have T3 := Lib.hid (slice_keep T3.out E7.out)
  have E7 := Lib.hid (E6.out.trans (E7.out.mono E6.out.size))
  clear hs7 hb7
  go_wp2_with fail
  refine (merge_at [(⟨A7, n7, c7, mrgq (l ++ m)⟩ : SRow), ⟨C, len3, cap3, o⟩] 2 rfl (Blk.new v7 _ _) rfl (by simp) (fun r hr => by
    have hk := (Below.refl v7.heap.size v7).alloc (Nat.le_refl _) (.cells #[.slice A7 n7 c7, .slice C len3 cap3] tSl)
    simp at hr
    rcases hr with rfl | rfl
    · exact slice_keep S7.out hk
    · exact slice_keep T3.out hk) (fun r hr => by
    simp at hr
    rcases hr with rfl | rfl
    · exact HGab.out
    · exact HGo.out) (by simp [allS]; have := HN.out; have := HLab.out; simp at this; omega) (mrgq (l ++ m ++ o)) (by rw [← R2.out]; simp [allS])).mono ?_
  rintro e v8 ⟨A8, n8, c8, rfl, hs8, hb8⟩
  have E8 := Lib.hid (((Below.refl v7.heap.size v7).alloc (Nat.le_refl _) (.cells #[.slice A7 n7 c7, .slice C len3 cap3] tSl)).trans (hb8.mono (by simp)))
  have S8 := Lib.hid hs8
  have S2 := Lib.hid (slice_keep S2.out E8.out)
  have E8 := Lib.hid (E7.out.trans (E8.out.mono E7.out.size))
  clear hs8 hb8
  go_wp2_with fail
  refine (same_yes _ _ _ _ _ _ _ _ S2.out S8.out).mono ?_
  rintro e v9 ⟨rfl, hb9⟩
  have E9 := Lib.hid (E8.out.trans (hb9.mono E8.out.size))
  clear hb9
  go_wp2
  go_ret
  exact ⟨rfl, E9.out⟩
end Go.Proofs.Ytkjmacdekfbfhaa
