/- flywheelref29.Rising: the walk. -/
import Derived.Test.YtkjmacdekfbfhaaRis
import Derived.Deep.QuietTactic
import Derived.BigQuiet
import Derived.Deep.Cut
namespace Go.Proofs.Ytkjmacdekfbfhaa
open Go.RowKit
set_option linter.unusedSimpArgs false
set_option linter.unusedVariables false
set_option maxHeartbeats 8000000
set_option maxRecDepth 100000
abbrev OwnJ (w : World) (base : Nat) (v : Value) (l : List Int) : Prop := Own w base 3 1 (fun n : Int => [Value.int .i64 n]) v l
theorem info_int : (Try.prog.info? 3).map (fun i => (i.zero, i.size, i.bytes)) = some (some (.int .i64 0), 1, 8) := by kernel_rfl
theorem j_len : ∀ x : Int, ([Value.int .i64 x]).length = 1 := fun _ => rfl
theorem push_j {ops : Array Oper} {rest : List Oper} {o : Oper} {a : Act} {Q : Exit → Act → World → Prop} (w : World) (hgd : o.guard = none) (s x : Operand)
    (ho : o.op = .call { callee := .builtin .append, args := #[s, x], argTypes := #[80, 80] }) (base : Nat) (v : Value) (l : List Int) (hs : a.eval s = v) (hown : OwnJ w base v l)
    (g : Nat) (t : TypeId) (c : Nat) (y : Int) (hx : a.eval x = .slice (some ⟨g, 0, none⟩) 1 c) (hnews : Blk w g t #[.int .i64 y]) (hlen : l.length < 1000000) (hbase : base ≤ w.heap.size)
    (h : ∀ v' w', OwnJ w' base v' (l ++ [y]) → Below base w w' → w.grownBy w' v.ownBlock → wpList Try.prog ops Q rest (a.put o.dst v') w') : wpList Try.prog ops Q (o :: rest) a w :=
  wpList_push w hgd s x _ ho base 3 _ 1 8 _ Try.underlying80 info_int (by rfl) (by decide) (fun _ => rfl) (fun _ u hu => by simp at hu; subst hu; rfl) v l hs hown ⟨g, 0, none⟩ c y hx (blk_news (α := Int) (vs := [.int .i64 y]) hnews rfl) hlen (by decide) hbase h
theorem ownJ_at {w : World} {base : Nat} {A : Option Addr} {n c : Nat} {l : List Int} (h : OwnJ w base (.slice A n c) l) {j : Nat} (hj : j < n) : n = l.length ∧ n ≤ c ∧ c ≤ 9223372036854775807 ∧ ∃ b y, A = some ⟨b, 0, none⟩ ∧ l[j]? = some y ∧ b < w.heap.size ∧ w.cell? ⟨b, j, none⟩ = some (.int .i64 y) := by
  obtain ⟨A', n', c', e, hn, hs⟩ := h.shape j_len
  cases e
  obtain ⟨b, off, y, hA, hy, hb, hc⟩ := SliceIs.at_ hs hj
  have h2 := hs.2.1
  have h3 := hs.2.2.1
  unfold maxLen at h3
  rcases h.2 with ⟨e2, _⟩ | ⟨g, cp, cur, e2, _⟩
  · cases e2; simp at hA
  · cases e2
    injection hA with hA
    injection hA with hA1 hA2 hA3
    subst hA1; subst hA2
    have := hc 0 _ rfl
    refine ⟨hn, h2, by omega, g, y, rfl, hy, hb, ?_⟩
    rw [show j = 0 + (j * 1 + 0) from by omega]
    exact this
/-- All of the first j are below x. -/
def LtT (H : List Int) (x : Int) (j : Nat) : Prop := ∀ i y, i < j → H[i]? = some y → y < x
theorem LtT.next {H : List Int} {x y : Int} {j : Nat} (h : LtT H x j) (hy : H[j]? = some y) (hyx : y < x) : LtT H x (j + 1) := by
  intro i z hi hz
  rcases Nat.lt_or_ge i j with hlt | hge
  · exact h i z hlt hz
  · obtain rfl : i = j := by omega
    rw [hy] at hz; injection hz with hz; omega
theorem LtT.all {H : List Int} {x : Int} (h : LtT H x H.length) : ∀ y ∈ H, y < x := by
  intro y hy
  obtain ⟨i, hi⟩ := List.getElem?_of_mem hy
  exact h i y (List.getElem?_eq_some_iff.1 hi).1 hi
def flt (H : List Int) (x : Int) : List Int := H.filter fun y => decide (y ≠ x)
theorem flt_yes {H : List Int} {x y : Int} {j : Nat} (hy : H[j]? = some y) (h : y ≠ x) : flt (H.take (j + 1)) x = flt (H.take j) x ++ [y] := by
  unfold flt; rw [List.take_add_one, hy, Option.toList_some, List.filter_append]; simp [h]
theorem flt_no {H : List Int} {x y : Int} {j : Nat} (hy : H[j]? = some y) (h : y = x) : flt (H.take (j + 1)) x = flt (H.take j) x := by
  unfold flt; rw [List.take_add_one, hy, Option.toList_some, List.filter_append]; simp [h]
theorem ref29_Rising (A : Option Addr) (len cap : Nat) (l : List COp) (w : World) (hs : COpsAre w A len cap l) (hn : len ≤ 100000) :
    Calls Try.prog 20 #[.slice A len cap] w fun e w' => e = .returned (.bool (ris l [])) ∧ Below w.heap.size w w' := by
  have HS := Lib.hid hs
  have HLl := Lib.hid hs.1
  have hm : cap ≤ 9223372036854775807 := by have := hs.2.2.1; unfold maxLen at this; omega
  have hle : len ≤ cap := hs.2.1
  obtain ⟨R, hR⟩ : ∃ R, R = ris l [] := ⟨_, rfl⟩
  rw [← hR]
  have HR := Lib.hid hR
  clear hs hR
  go_enter Try.func20, Try.ntmps20
  go_wp2
  go_loopw [3, 4] (fun hv i wr => ∃ (k : Nat) (H : List Int), k ≤ len ∧ i = .int .i64 k ∧ (∃ B m cc, hv = .slice B m cc) ∧ OwnJ wr w.heap.size hv H ∧ H.length ≤ k ∧ R = ris (l.drop k) H ∧ Below w.heap.size w wr) (fun _ i _ => len - (intOf i).toNat)
  case atStart => exact ⟨0, [], Nat.zero_le _, rfl, ⟨_, _, _, rfl⟩, Own.nil _ _ _ _ _, Nat.le_refl _, by rw [List.drop_zero]; exact HR.out, Below.refl _ _⟩
  case round =>
    obtain ⟨k, H, hk, rfl, ⟨B, m, cc, rfl⟩, ho, hHl, hRk, hbel⟩ := hrel
    have HO := Lib.hid ho
    have HRk := Lib.hid hRk
    have HB := Lib.hid hbel
    have hbs := hbel.size
    obtain ⟨_, _, _, e0, hmH, hsl0⟩ := ho.shape j_len
    cases e0
    have HMH := Lib.hid hmH
    have hmc : m ≤ cc := hsl0.2.1
    have hcc : cc ≤ 9223372036854775807 := by have := hsl0.2.2.1; unfold maxLen at this; omega
    have hm5 : m ≤ 100000 := by omega
    clear ho hRk hbel hmH hsl0
    by_cases hlt : k < len
    · have hki : (k : Int) < (len : Int) := by omega
      obtain ⟨b, off, x, rfl, hx, hb, t0', t1'⟩ := COpsAre.at_ HS.out hlt
      have HD := Lib.hid (HRk.out.trans (by rw [drop_at hx]))
      obtain ⟨wo, hwo⟩ : ∃ wo, wo = wr := ⟨_, rfl⟩
      rw [← hwo] at HO HB hbs ⊢
      clear hwo hx
      have T0 := Lib.hid (fun (W : World) (h : Below w.heap.size w W) => (h.cell (p := ⟨b, off + k * 2, none⟩) hb).trans t0')
      have T1 := Lib.hid (fun (W : World) (h : Below w.heap.size w W) => (h.cell (p := ⟨b, off + k * 2 + 1, none⟩) hb).trans t1')
      have t0 := T0.out wo HB.out
      have t1 := T1.out wo HB.out
      clear t0' t1' hb
      by_cases hk23 : x.kind = 2 ∨ x.kind = 3
      · have hkd : (x.kind == 2) = true ∨ ((x.kind == 2) = false ∧ (x.kind == 3) = true) := by
          by_cases h : x.kind = 2
          · exact .inl (by simpa using h)
          · exact .inr ⟨by simpa using h, by simp; omega⟩
        have e5 : (x.kind == 5) = false := by simp; omega
        have HK := Lib.hid hk23
        clear hk23
        rcases hkd with e2 | ⟨e2, e3⟩
        all_goals
          go_wp2
          go_loopw [5] (fun a wr2 => ∃ j : Nat, j ≤ m ∧ a = .int .i64 j ∧ LtT H x.lock j ∧ Below wo.heap.size wo wr2) (fun a _ => m - (intOf a).toNat)
          case atStart => exact ⟨0, Nat.zero_le _, rfl, (fun i y hi => by omega), Below.refl _ _⟩
          case round =>
            obtain ⟨j, hj, rfl, hltt, hb2⟩ := hrel
            have HLt := Lib.hid hltt
            have HB2 := Lib.hid hb2
            have s0 := T0.out wr (HB.out.trans (hb2.mono HB.out.size))
            have s1 := T1.out wr (HB.out.trans (hb2.mono HB.out.size))
            have hb2s := hb2.size
            clear hltt hb2 t0 t1
            by_cases hjm : j < m
            · obtain ⟨-, -, -, bg, y, rfl, hy, hgb, hcy⟩ := ownJ_at HO.out hjm
              have cy := (HB2.out.cell (p := ⟨bg, j, none⟩) hgb).trans hcy
              have hji : (j : Int) < (m : Int) := by omega
              have dj : decide ((j : Int) < (m : Int)) = true := by simpa using hjm
              clear hcy
              by_cases hyx : x.lock ≤ y
              · have HE := Lib.hid (HD.out.trans (ris_ask_no HK.out (List.mem_of_getElem? hy) hyx))
                have dy : decide (x.lock ≤ y) = true := by simpa using hyx
                clear hyx hy hgb
                go_wp2
                go_quiet (fail)
                go_wp2
                go_ret
                exact ⟨ret_bool HE.out.symm, below_drewN (HB.out.trans (HB2.out.mono HB.out.size)) nq⟩
              · have HLn := Lib.hid (HLt.out.next hy (by omega))
                have dy : decide (x.lock ≤ y) = false := by simpa using hyx
                clear hyx hy hgb
                go_wp2
                go_quiet (fail)
                go_wp2
                go_roundw
                case rel => exact ⟨j + 1, by omega, by go_num, HLn.out, below_drewN HB2.out nq⟩
                case measure => simp [intOf]; omega
            · have hall := Lib.hid (LtT.all (show LtT H x.lock H.length from by have : j = H.length := (by have := HMH.out; omega); rw [← this]; exact HLt.out))
              have dj : decide ((j : Int) < (m : Int)) = false := by simp; omega
              have HE := Lib.hid (HD.out.trans (ris_ask HK.out hall.out))
              have HO2 := Lib.hid (HO.out.call HB2.out)
              have HB3 := Lib.hid (HB.out.trans (HB2.out.mono HB.out.size))
              go_wp2_with (at_builtin; refine push_j _ rfl (.tmp 44) (.tmp 50) rfl w.heap.size (.slice B m cc) _ rfl (HO2.out.alloc _) wr.heap.size 3 1 x.lock rfl (Blk.new _ _ _) (by have := HMH.out; omega) (by simp; omega) ?_; intro v' w5 ho5 hb5 hg5; obtain ⟨A5, n5, c5, rfl, -, -⟩ := ho5.shape j_len; have O5 := Lib.hid ho5; have D5 := Lib.hid ((HB3.out.alloc HB3.out.size _).trans hb5); have s9 := T0.out w5 D5.out; clear ho5 hb5 hg5)
              go_roundw
              case rel => exact ⟨k + 1, H ++ [x.lock], by omega, by go_num, ⟨_, _, _, rfl⟩, O5.out, by simp; omega, HE.out, D5.out⟩
              case measure => simp [intOf]; omega
      · have e2 : (x.kind == 2) = false := by simp; omega
        have e3 : (x.kind == 3) = false := by simp; omega
        have hk2 : x.kind ≠ 2 := by omega
        have hk3 : x.kind ≠ 3 := by omega
        have HK2 := Lib.hid hk2
        have HK3 := Lib.hid hk3
        clear hk23 hk2 hk3
        by_cases hk5 : x.kind = 5
        · have e5 : (x.kind == 5) = true := by simpa using hk5
          have HK5 := Lib.hid hk5
          clear hk5
          go_wp2
          go_loopw [6, 7] (fun lv a wr2 => ∃ j : Nat, j ≤ m ∧ a = .int .i64 j ∧ (∃ B2 m2 c2, lv = .slice B2 m2 c2) ∧ OwnJ wr2 wo.heap.size lv (flt (H.take j) x.lock) ∧ Below wo.heap.size wo wr2) (fun _ a _ => m - (intOf a).toNat)
          case atStart => exact ⟨0, Nat.zero_le _, rfl, ⟨_, _, _, rfl⟩, Own.nil _ _ _ _ _, Below.refl _ _⟩
          case round =>
            obtain ⟨j, hj, rfl, ⟨B2, m2, c2, rfl⟩, ho2, hb2⟩ := hrel
            have HO2 := Lib.hid ho2
            have HB2 := Lib.hid hb2
            have HFl := Lib.hid (show (flt (H.take j) x.lock).length ≤ j from by
              have h1 := List.length_filter_le (fun y => decide (y ≠ x.lock)) (H.take j)
              have h2 := List.length_take_le j H
              unfold flt
              omega)
            have s0 := T0.out wr (HB.out.trans (hb2.mono HB.out.size))
            have s1 := T1.out wr (HB.out.trans (hb2.mono HB.out.size))
            have hb2s := hb2.size
            clear ho2 hb2 t0 t1
            by_cases hjm : j < m
            · obtain ⟨-, -, -, bg, y, rfl, hy, hgb, hcy⟩ := ownJ_at HO.out hjm
              have CY := Lib.hid (fun (W : World) (h : Below wo.heap.size wo W) => (h.cell (p := ⟨bg, j, none⟩) hgb).trans hcy)
              have cy := CY.out wr HB2.out
              have hji : (j : Int) < (m : Int) := by omega
              have dj : decide ((j : Int) < (m : Int)) = true := by simpa using hjm
              clear hcy hgb
              by_cases hyx : y = x.lock
              · have HN := Lib.hid (flt_no hy hyx)
                have dy : (y != x.lock) = false := by simpa using hyx
                clear hyx hy
                go_wp2
                go_quiet (fail)
                go_wp2
                go_roundw
                case rel => exact ⟨j + 1, by omega, by go_num, ⟨_, _, _, rfl⟩, by rw [HN.out]; exact HO2.out.drewN_ nq, below_drewN HB2.out nq⟩
                case measure => simp [intOf]; omega
              · have HN := Lib.hid (flt_yes hy hyx)
                have dy : (y != x.lock) = true := by simpa using hyx
                clear hyx hy
                go_wp2
                go_quiet (fail)
                have EB := Lib.hid (below_drewN HB2.out nq)
                have OD := Lib.hid (HO2.out.drewN_ nq)
                generalize wr.drewN nq = W0 at *
                have cy0 := CY.out W0 EB.out
                clear cy s0 s1
                go_wp2_with (at_builtin; refine push_j _ rfl (.tmp 74) (.tmp 79) rfl wo.heap.size (.slice B2 m2 c2) _ rfl (OD.out.alloc _) W0.heap.size 3 1 y rfl (Blk.new _ _ _) (by have := HFl.out; omega) (by have := EB.out.size; simp; omega) ?_; intro v' w5 ho5 hb5 hg5; obtain ⟨A5, n5, c5, rfl, -, -⟩ := ho5.shape j_len; have O5 := Lib.hid ho5; have D5 := Lib.hid ((EB.out.alloc EB.out.size _).trans hb5); clear ho5 hb5 hg5)
                go_roundw
                case rel => exact ⟨j + 1, by omega, by go_num, ⟨_, _, _, rfl⟩, by rw [HN.out]; exact O5.out, D5.out⟩
                case measure => simp [intOf]; omega
            · obtain rfl : j = m := by omega
              have dj : decide ((j : Int) < (j : Int)) = false := by simp
              have HT := Lib.hid (show H.take j = H from List.take_of_length_le (by have := HMH.out; omega))
              have hO3 := HO2.out
              rw [HT.out] at hO3
              obtain ⟨_, _, _, e0, hm2, -⟩ := hO3.shape j_len
              cases e0
              have HO3 := Lib.hid hO3
              have hmH := HMH.out
              have hFl := List.length_filter_le (fun y => decide (y ≠ x.lock)) H
              by_cases hin : x.lock ∈ H
              · have HE := Lib.hid (HD.out.trans (ris_drop HK5.out hin))
                have hne : (flt H x.lock).length ≠ H.length := fun h => (filter_same.1 h) hin
                have dq : ((m2 : Int) == (j : Int)) = false := by simp; omega
                have HLe := Lib.hid (show (flt H x.lock).length ≤ k + 1 from by unfold flt; omega)
                clear hne hin hFl hm2 hmH hO3
                go_wp2
                go_roundw
                case rel => exact ⟨k + 1, flt H x.lock, by omega, by go_num, ⟨_, _, _, rfl⟩, HO3.out.mono HB.out.size, HLe.out, HE.out, HB.out.trans (HB2.out.mono HB.out.size)⟩
                case measure => simp [intOf]; omega
              · have HE := Lib.hid (HD.out.trans (ris_drop_no HK5.out hin))
                have heq : (flt H x.lock).length = H.length := filter_same.2 hin
                have dq : ((m2 : Int) == (j : Int)) = true := by simp; omega
                clear heq hin hFl hm2 hmH hO3
                go_wp2
                go_ret
                exact ⟨ret_bool HE.out.symm, HB.out.trans (HB2.out.mono HB.out.size)⟩
        · have e5 : (x.kind == 5) = false := by simpa using hk5
          have HE := Lib.hid (HD.out.trans (ris_skip HK2.out HK3.out hk5))
          clear hk5
          go_wp2
          go_roundw
          case rel => exact ⟨k + 1, H, by omega, by go_num, ⟨_, _, _, rfl⟩, HO.out, by omega, HE.out, HB.out⟩
          case measure => simp [intOf]; omega
    · have HE := Lib.hid (show R = decide (H.length = 0) from HRk.out.trans (by
        rw [List.drop_eq_nil_of_le (by rw [HLl.out]; omega)]
        cases H <;> simp [ris]))
      go_wp2
      go_ret
      exact ⟨ret_bool (by rw [HE.out, ← HMH.out, Bool.eq_iff_iff]; simp), HB.out⟩
end Go.Proofs.Ytkjmacdekfbfhaa
