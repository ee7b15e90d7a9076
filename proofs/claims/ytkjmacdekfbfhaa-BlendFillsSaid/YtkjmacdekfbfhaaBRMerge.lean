/- flywheelref46.Merge. (fast region, no defers) -/
import Derived.Test.YtkjmacdekfbfhaaBPut2
import Derived.Test.YtkjmacdekfbfhaaWin
namespace Go.Proofs.Ytkjmacdekfbfhaa
open Go.RowKit
set_option linter.unusedSimpArgs false
set_option linter.unusedVariables false
set_option maxHeartbeats 4000000
set_option maxRecDepth 100000
theorem OwnS.addr {w : World} {base n c : Nat} {A : Option Addr} {l : List Smp} (h : OwnS w base (.slice A n c) l) : (A = none ∧ n = 0 ∧ c = 0) ∨ ∃ g, A = some ⟨g, 0, none⟩ := by
  rcases h.2 with ⟨hv, -⟩ | ⟨g, cap, cur, hv, -⟩
  · injection hv with h1 h2 h3; exact .inl ⟨h1, h2, h3⟩
  · injection hv with h1; exact .inr ⟨g, h1⟩
theorem ref46_put (base n co : Nat) (A : Option Addr) (l : List Smp) (t v : Int) (w : World) (hs : OwnS w base (.slice A n co) l) (hn : l.length ≤ 1000) (hv : 0 ≤ v ∧ v ≤ mxI) (hl : ∀ x ∈ l, 0 ≤ x.value ∧ x.value ≤ mxI) :
    Calls Try.prog 78 #[.slice A n co, .int .i64 t, .int .i64 v] w (PutP w (putM t v l)) := by
  obtain ⟨A', n', c', he, hn', hs'⟩ := ownS_isB hs
  injection he with e1 e2 e3
  subst e1; subst e2; subst e3
  rcases OwnS.addr hs with ⟨rfl, rfl, rfl⟩ | ⟨g, rfl⟩
  · have : l = [] := List.eq_nil_of_length_eq_zero hn'.symm
    subst this
    exact ref46_put_nil t v w
  · exact ref46_put_some g n co l t v w hs' (by omega) hv hl
theorem mrgq_pos (l : List Smp) (hg : ∀ x ∈ l, x.good) : ∀ x ∈ mrgq l, 0 ≤ x.value ∧ x.value ≤ mxI :=
  (mrgq_is l fun x hx => by have := (hg x hx).2; unfold I64 at this; unfold mxI; omega).pos
theorem valq_at {l : List Smp} {k : Nat} {x : Smp} (h : l[k]? = some x) : (valq l)[k]? = some (max x.value 0) := by
  unfold valq; rw [List.getElem?_map, h]; rfl
theorem ref46_Merge (A : Option Addr) (len cap : Nat) (rows : List SRow) (w : World) (hr : PartsS w A len cap rows) (hg : ∀ r ∈ rows, ∀ x ∈ r.l, x.good) (hn : (allS rows).length ≤ 800) (hl : len ≤ 100) :
    Calls Try.prog 34 #[.slice A len cap] w (PutP w (mrgq (allS rows))) := by
  have HR := Lib.hid hr
  have HLl := Lib.hid hr.1.1
  have HG := Lib.hid hg
  have HN := Lib.hid hn
  have HGA := Lib.hid (show ∀ x ∈ allS rows, x.good from fun x hx => by
    unfold allS at hx
    obtain ⟨r, hr, hxr⟩ := List.mem_flatMap.1 hx
    exact hg r hr x hxr)
  clear hr hg hn
  go_enter Try.func34, Try.ntmps34
  go_wp2
  go_loopw [3, 4] (fun o i wr => ∃ (k n c : Nat) (Ao : Option Addr), k ≤ len ∧ i = .int .i64 k ∧ o = .slice Ao n c ∧ OwnS wr w.heap.size (.slice Ao n c) (mrgq (allS (rows.take k))) ∧ Below w.heap.size w wr) (fun _ i _ => len - (intOf i).toNat)
  case atStart => exact ⟨0, 0, 0, none, Nat.zero_le _, rfl, rfl, Own.nil _ _ _ _ _, Below.refl _ _⟩
  case round =>
    obtain ⟨k, no, co, Ao, hk, rfl, rfl, hown, hbel⟩ := hrel
    have HO := Lib.hid hown
    have HB := Lib.hid hbel
    by_cases hlt : k < len
    · obtain ⟨bb, off, r, rfl, hx, hb, hc, hsr⟩ := PartsS.at_ (HR.out.keep hbel) hlt
      have hki : (k : Int) < (len : Int) := by omega
      have HNx := Lib.hid (allS_next hx)
      have HSr := Lib.hid hsr
      have hle : (allS (rows.take (k + 1))).length ≤ (allS rows).length := by
        conv => rhs; rw [← List.take_append_drop (k + 1) rows]
        unfold allS; rw [List.flatMap_append, List.length_append]; omega
      have hll : (allS (rows.take k)).length + r.l.length ≤ 800 := by
        have h1 := congrArg List.length (allS_next hx)
        rw [List.length_append] at h1
        have := HN.out; omega
      have hgp : ∀ x ∈ allS (rows.take k) ++ r.l, x.good := fun x hx' => HGA.out x (by
        rw [← allS_next hx] at hx'
        have : allS rows = allS (rows.take (k + 1)) ++ allS (rows.drop (k + 1)) := by
          conv => lhs; rw [← List.take_append_drop (k + 1) rows]
          unfold allS; rw [List.flatMap_append]
        rw [this]; exact List.mem_append_left _ hx')
      have HLL := Lib.hid hll
      have HGP := Lib.hid hgp
      have HRl := Lib.hid hsr.1
      have HC := Lib.hid (fun (W : World) (h : Below wr.heap.size wr W) => (h.cell (p := ⟨bb, off + k, none⟩) hb).trans hc)
      obtain ⟨RA, rn, rc, rl⟩ := r
      dsimp only at hc HSr HRl HNx HLL HGP HC
      generalize allS (rows.take k) = L0 at *
      have hrn : rn ≤ 800 := by have := HRl.out; have := HLL.out; omega
      have HV := Lib.hid (ref09_Values RA rn rc rl wr HSr.out (by omega))
      clear hx hb hown hbel hsr hll hle hgp
      obtain ⟨wo, rfl⟩ : ∃ wo : World, wo = wr := ⟨_, rfl⟩
      go_wp2_with (go_at_call 74; refine HV.out.mono ?_; rintro e w1 ⟨u, rfl, ho1, hb1⟩; obtain ⟨A1, n1, c1, rfl, hn1, hi1⟩ := ho1.shape (fun _ => rfl); obtain rfl : rn = n1 := (by rw [hn1, valq_len]; exact HRl.out.symm); have I1 := Lib.hid hi1; have B1 := Lib.hid hb1; clear ho1 hb1 hi1 hn1)
      have O1 := Lib.hid (HO.out.call B1.out)
      clear hc
      go_loopw [3, 6] (fun o j wr => ∃ (m n c : Nat) (Ao : Option Addr), m ≤ rn ∧ j = .int .i64 m ∧ o = .slice Ao n c ∧ OwnS wr w.heap.size (.slice Ao n c) (mrgq (L0 ++ rl.take m)) ∧ Below w1.heap.size w1 wr) (fun _ j _ => rn - (intOf j).toNat)
      case atStart => exact ⟨0, no, co, Ao, Nat.zero_le _, rfl, rfl, by simpa using O1.out, Below.refl _ _⟩
      case round =>
        obtain ⟨m, no, co, Ao, hm, rfl, rfl, hown, hbel⟩ := hrel
        have HP := Lib.hid hown
        have HBm := Lib.hid hbel
        clear hown hbel
        by_cases hlt2 : m < rn
        · obtain ⟨b2, off2, x, rfl, hx, hb2, c0, c1⟩ := SmpsAre.at_ HSr.out hlt2
          obtain ⟨b3, off3, y, rfl, hy, hb3, c3⟩ := IntsAre.at_ I1.out hlt2
          obtain rfl : y = max x.value 0 := by
            have := valq_at hx
            rw [hy] at this
            exact Option.some.inj this
          have hmi : (m : Int) < (rn : Int) := by omega
          have HNn := Lib.hid (take_nx hx)
          have BW := Lib.hid (B1.out.trans (HBm.out.mono B1.out.size))
          have K1 := Lib.hid (fun (W : World) (h : Below wr.heap.size wr W) => ((BW.out.trans (h.mono BW.out.size)).cell (p := ⟨b2, off2 + m * 2, none⟩) hb2).trans c0)
          have K2 := Lib.hid (fun (W : World) (h : Below wr.heap.size wr W) => ((HBm.out.trans (h.mono HBm.out.size)).cell (p := ⟨b3, off3 + m, none⟩) hb3).trans c3)
          have K3 := Lib.hid (fun (W : World) (h : Below wr.heap.size wr W) => HC.out W (BW.out.trans (h.mono BW.out.size)))
          have HXg := Lib.hid (HGP.out x (List.mem_append_right _ (List.mem_of_getElem? hx)))
          have HPl := Lib.hid (show (mrgq (L0 ++ rl.take m)).length ≤ 1000 from by have := mrgq_len (L0 ++ rl.take m); rw [List.length_append, List.length_take] at this; have := HLL.out; omega)
          have HPp := Lib.hid (mrgq_pos (L0 ++ rl.take m) (fun z hz => HGP.out z (by rcases List.mem_append.1 hz with h | h; exact List.mem_append_left _ h; exact List.mem_append_right _ (List.mem_of_mem_take h))))
          have HQ := Lib.hid (show mrgq (L0 ++ rl.take (m + 1)) = putM x.tick (max x.value 0) (mrgq (L0 ++ rl.take m)) from by rw [take_nx hx, ← List.append_assoc, mrgq_snoc])
          have HMx := Lib.hid (show 0 ≤ max x.value 0 ∧ max x.value 0 ≤ mxI from by have := HXg.out.2; unfold I64 at this; unfold mxI; omega)
          obtain ⟨xt, xv⟩ := x
          dsimp only at K1 K2 HMx HQ
          generalize mrgq (L0 ++ rl.take m) = LM at *
          generalize max xv 0 = MV at *
          clear hx hb2 c0 c1 hy hb3 c3
          focus (go_upto_region 9 with fail)
          refine wp_region_any (by kernel_rfl) ?_; change wpAny _ _ _ _ _ _ _ (World.drew wr); refine any_of_anyG (late := fun _ => false) (S := fun wS => Below wr.heap.size wr wS) _ _ _ _ ?_
          have S0 := (Below.refl wr.heap.size wr).drew
          refine anyG_takes (is := [0, 1, 2, 3, 4]) (vs := [_, _, _, .pointer (some ⟨bb, off + k, none⟩), .slice (some ⟨b2, off2, none⟩) rn rc]) (m := 10) (listed2 := #[true, true, true, true, true, false, false, false, false, false, false, false, false, false, false]) (a2 := ⟨#[_, _, _, _, _, _, _, _, _, _, _, _, _, _, _, _, _, _, _, _, _, _, _, _, _, _, _, _, _, _, _, _, _, _, _, _, _, _, _], []⟩) (by kernel_rfl) (fun j hj => by simp at hj) (by kernel_rfl) (fun _ _ _ _ _ h => h) (Ys.cons rfl (Or.inl ⟨by rfl, fun W1 hW1 => by first | rfl | (go_simp; done) | (go_simp; with_reducible rfl)⟩) (Ys.cons rfl (Or.inl ⟨by rfl, fun W1 hW1 => by first | rfl | (go_simp; done) | (go_simp; with_reducible rfl)⟩) (Ys.cons rfl (Or.inl ⟨by rfl, fun W1 hW1 => by first | rfl | (go_simp; done) | (go_simp; with_reducible rfl)⟩) (Ys.cons rfl (Or.inl ⟨by rfl, fun W1 hW1 => by go_simp⟩) (Ys.cons rfl (Or.inl ⟨by rfl, fun W1 hW1 => by have c := K3.out _ hW1; go_simp⟩) (Ys.nil)))))) (S0) (by rfl) (by rfl) ?_
          refine anyG_takes (is := [5, 6, 7, 8, 9]) (vs := [_, .pointer (some ⟨b2, off2 + m * 2, none⟩), .pointer (some ⟨b2, off2 + m * 2, none⟩), .int .i64 xt, _]) (m := 5) (listed2 := #[true, true, true, true, true, true, true, true, true, true, false, false, false, false, false]) (a2 := ⟨#[_, _, _, _, _, _, _, _, _, _, _, _, _, _, _, _, _, _, _, _, _, _, _, _, _, _, _, _, _, _, _, _, _, _, _, _, _, _, _], []⟩) (by kernel_rfl) (fun j hj => by simp at hj) (by kernel_rfl) (fun _ _ _ _ _ h => h) (Ys.cons rfl (Or.inl ⟨by rfl, fun W1 hW1 => by first | rfl | (go_simp; done) | (go_simp; with_reducible rfl)⟩) (Ys.cons rfl (Or.inl ⟨by rfl, fun W1 hW1 => by go_simp⟩) (Ys.cons rfl (Or.inl ⟨by rfl, fun W1 hW1 => by first | rfl | (go_simp; done) | kernel_rfl⟩) (Ys.cons rfl (Or.inl ⟨by rfl, fun W1 hW1 => by have c := K1.out _ hW1; go_simp⟩) (Ys.cons rfl (Or.inl ⟨by rfl, fun W1 hW1 => by first | rfl | (go_simp; done) | (go_simp; with_reducible rfl)⟩) (Ys.nil)))))) (S0) (by rfl) (by rfl) ?_
          refine anyG_takes (is := [10, 11, 12]) (vs := [_, .pointer (some ⟨b3, off3 + m, none⟩), .int .i64 MV]) (m := 2) (listed2 := #[true, true, true, true, true, true, true, true, true, true, true, true, true, false, false]) (a2 := ⟨#[_, _, _, _, _, _, _, _, _, _, _, _, _, _, _, _, _, _, _, _, _, _, _, _, _, _, _, _, _, _, _, _, _, _, _, _, _, _, _], []⟩) (by kernel_rfl) (fun j hj => by simp at hj) (by kernel_rfl) (fun _ _ _ _ _ h => h) (Ys.cons rfl (Or.inl ⟨by rfl, fun W1 hW1 => by first | rfl | (go_simp; done) | (go_simp; with_reducible rfl)⟩) (Ys.cons rfl (Or.inl ⟨by rfl, fun W1 hW1 => by go_simp⟩) (Ys.cons rfl (Or.inl ⟨by rfl, fun W1 hW1 => by have c := K2.out _ hW1; go_simp⟩) (Ys.nil)))) (S0) (by rfl) (by rfl) ?_
          refine anyG_one (k := 13) (by kernel_rfl) rfl (by rfl) (fun Q2 hQ2 => ?_); go_wp2_with (go_at_call 78; refine (ref46_put w.heap.size no co Ao LM xt MV _ (HP.out.call (S0)) HPl.out HMx.out HPp.out).mono ?_; rintro e v13 ⟨A13, n13, c13, rfl, ho13, hb13⟩); refine hQ2 _ _ (fun _ => S0.trans (hb13.mono S0.size)) ?_; clear hQ2 Q2
          have S13 := S0.trans (hb13.mono S0.size)
          refine anyG_takes (is := [14]) (vs := [.slice A13 n13 c13]) (m := 0) (listed2 := #[true, true, true, true, true, true, true, true, true, true, true, true, true, true, true]) (a2 := ⟨#[_, _, _, _, _, _, _, _, _, _, _, _, _, _, _, _, _, _, _, _, _, _, _, _, _, _, _, _, _, _, _, _, _, _, _, _, _, _, _], []⟩) (by kernel_rfl) (fun j hj => by simp at hj) (by kernel_rfl) (fun _ _ _ _ _ h => h) (Ys.cons rfl (Or.inl ⟨by rfl, fun W1 hW1 => by rfl⟩) (Ys.nil)) (S13) (by rfl) (by rfl) ?_
          refine anyG_done (by kernel_rfl) ?_ _
          have X5 := Lib.hid (show OwnS v13 w.heap.size (.slice A13 n13 c13) (mrgq (L0 ++ rl.take (m + 1))) from by rw [HQ.out]; exact ho13.mono (HB.out.trans (BW.out.mono HB.out.size)).size)
          have X6 := Lib.hid (HBm.out.trans ((S13).mono HBm.out.size))
          clear ho13 hb13 S0 S13
          go_wp2
          go_roundw
          case rel => exact ⟨m + 1, n13, c13, A13, by omega, by go_num, rfl, X5.out, X6.out⟩
          case measure => simp [intOf]; omega
        · obtain rfl : m = rn := by omega
          have HE := Lib.hid (show OwnS wr w.heap.size (.slice Ao no co) (mrgq (allS (rows.take (k + 1)))) from by
            rw [HNx.out]
            have := HP.out
            rwa [List.take_of_length_le (by have := HRl.out; omega)] at this)
          have HBe := Lib.hid (HB.out.trans ((B1.out.trans (HBm.out.mono B1.out.size)).mono HB.out.size))
          go_wp2
          go_roundw
          case rel => exact ⟨k + 1, no, co, Ao, by omega, by go_num, rfl, HE.out, HBe.out⟩
          case measure => simp [intOf]; omega
    · have hE : rows.take k = rows := List.take_of_length_le (by have := HLl.out; omega)
      rw [hE] at HO
      have hki : (len : Int) ≤ (k : Int) := by omega
      clear hE hown hbel
      go_wp2
      go_ret
      exact ⟨_, _, _, rfl, HO.out, HB.out⟩
end Go.Proofs.Ytkjmacdekfbfhaa
