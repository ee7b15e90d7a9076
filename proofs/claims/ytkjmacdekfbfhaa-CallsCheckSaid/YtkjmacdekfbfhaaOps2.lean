/- flywheelref29.Inner, Ops; calls.Ops: the walks. (fast region) -/
import Derived.Test.YtkjmacdekfbfhaaRInner2
import Derived.Test.YtkjmacdekfbfhaaOps
import Derived.Test.YtkjmacdekfbfhaaStoreC2
import Derived.Test.YtkjmacdekfbfhaaStoreC3
import Derived.Deep.Cut
namespace Go.Proofs.Ytkjmacdekfbfhaa
open Go.RowKit
set_option linter.unusedSimpArgs false
set_option linter.unusedVariables false
set_option maxHeartbeats 8000000
set_option maxRecDepth 100000
/-- A call's steps. -/
def stepsq (c : Cfg) (k : Int) (s : ByteArray) (t v : Int) (p : Pol) : List COp := opsq (decide c.okC) (callErr k s t v p) (homeq c s) c.str.toNat k
theorem stepsq_len (c : Cfg) (k : Int) (s : ByteArray) (t v : Int) (p : Pol) : (stepsq c k s t v p).length ≤ 136 := by
  unfold stepsq
  by_cases h : c.okC
  · have := opsq_len (decide c.okC) (callErr k s t v p) (homeq c s) c.str.toNat k
    have := right_cases h.1
    omega
  · unfold opsq
    rw [if_neg (by simpa using h)]; simp
theorem calls_Ops (c : Cfg) (k : Int) (s : ByteArray) (t v h : Int) (p : Pol) (w : World) (hs : s.size ≤ maxLen) (hc : c.fit) :
    Calls Try.prog 15 #[.agg c.row, .agg (callRow k s t v h p)] w (OwnedC w (stepsq c k s t v p)) := by
  have HR := Lib.hid (fun W => node_Right c W hc)
  have HK := Lib.hid (fun W => store_Check k s t v h p W hs)
  have X := Lib.hid (And.intro ((Blk.new w 23 c.row).alloc (.cells (callRow k s t v h p) 27)) (And.intro (Blk.new2 w (.cells c.row 23) 27 (callRow k s t v h p)) (show Below w.heap.size w ((w.alloc (.cells c.row 23)).alloc (.cells (callRow k s t v h p) 27)) by go_grown)))
  by_cases hok : c.okC
  · obtain ⟨n, hn, h64⟩ : ∃ n : Nat, c.str = n ∧ n ≤ 64 := by
      have := right_cases hok.1
      exact ⟨c.str.toNat, by omega, by omega⟩
    have HI := Lib.hid (fun W => calls_inner c k s t v h p n W hs hc hn h64)
    have hcE : cfgErr c = 0 := if_pos hok
    have hdE : decide c.okC = true := decide_eq_true hok
    have HQ := Lib.hid (show stepsq c k s t v p = [⟨1, 0⟩] ++ (if callErr k s t v p = 0 then inq (homeq c s) n k else []) ++ [⟨7, 0⟩] from by
      unfold stepsq opsq; rw [hdE, if_pos rfl, hn]; rfl)
    have HLn := Lib.hid (inq_len (homeq c s) n k)
    rw [hcE] at HR
    generalize stepsq c k s t v p = R at *
    generalize inq (homeq c s) n k = LI at *
    clear hok hcE hdE hn hc
    generalize hE : callErr k s t v p = CE at *
    clear hE
    by_cases h0 : CE = 0
    · have HQ2 := Lib.hid (HQ.out.trans (by rw [if_pos h0]))
      subst h0
      go_enter Try.func15, Try.ntmps15
      go_wp2_with (first
        | (refine Blk.load rfl 23 (.tmp 2) rfl _ _ _ _ rfl X.out.1 Try.underlying23 rfl (by kernel_rfl) ?_)
        | (go_at_call 59; refine (HR.out _).mono ?_; rintro e v1 ⟨rfl, hb1⟩; have D1 := Lib.hid (X.out.2.2.trans (hb1.mono X.out.2.2.size)); have B1 := Lib.hid (X.out.1.call hb1); have C1 := Lib.hid (X.out.2.1.call hb1); have z1 := C1.out.lt; clear hb1; have O1 := Lib.hid (own_blk (base := w.heap.size) (l := [(⟨1, 0⟩ : COp)]) cop_len (Blk.new v1 35 #[.int .i64 1, .int .i64 0]) rfl (by unfold maxLen; simp) D1.out.size); have D2 := Lib.hid (D1.out.alloc D1.out.size (.cells #[.int .i64 1, .int .i64 0] 35)); have B2 := Lib.hid (B1.out.alloc (.cells #[.int .i64 1, .int .i64 0] 35)); have C2 := Lib.hid (C1.out.alloc (.cells #[.int .i64 1, .int .i64 0] 35)))
        | (refine Blk.load rfl 27 (.tmp 3) rfl _ _ _ _ rfl C2.out Try.underlying27 rfl (by kernel_rfl) ?_)
        | (go_at_call 60; refine (HK.out _).mono ?_; rintro e v2 ⟨rfl, hb2⟩; have D3 := Lib.hid (D2.out.trans (hb2.mono D2.out.size)); have B3 := Lib.hid (B2.out.call hb2); have C3 := Lib.hid (C2.out.call hb2); have O2 := Lib.hid (O1.out.call hb2); clear hb2)
        | (refine Blk.load rfl 23 (.tmp 2) rfl _ _ _ _ rfl B3.out Try.underlying23 rfl (by kernel_rfl) ?_)
        | (refine Blk.load rfl 27 (.tmp 3) rfl _ _ _ _ rfl C3.out Try.underlying27 rfl (by kernel_rfl) ?_)
        | (go_at_call 61; refine (HI.out _).mono ?_; rintro e v3 ⟨V3, rfl, o3, hb3⟩; obtain ⟨A3, n3, c3, rfl, hn3, hs3⟩ := o3.shape cop_len; have S3 := Lib.hid hs3; have N3 := Lib.hid hn3; have D4 := Lib.hid (D3.out.trans (hb3.mono D3.out.size)); have O3 := Lib.hid (O2.out.call hb3); clear hb3 hn3 hs3 o3)
        | (at_builtin; refine cat_c _ rfl (.tmp 14) (.tmp 17) rfl w.heap.size _ _ rfl O3.out A3 n3 c3 LI rfl S3.out (by have := N3.out; have := HLn.out; simp; omega) D4.out.size ?_; intro v' w5 ho hb5 hg5; obtain ⟨A5, n5, c5, rfl, -, -⟩ := ho.shape cop_len; have O5 := Lib.hid ho; have D5 := Lib.hid (D4.out.trans hb5); clear ho hb5 hg5)
        | (at_builtin; refine push_c _ rfl (.tmp 19) (.tmp 21) rfl w.heap.size _ _ rfl (O5.out.alloc _) w5.heap.size 35 1 ⟨7, 0⟩ rfl (Blk.new _ _ _) (by have := HLn.out; simp; omega) (by have := D5.out.size; simp; omega) ?_; intro v' w6 ho hb6 hg6; obtain ⟨A6, n6, c6, rfl, -, -⟩ := ho.shape cop_len; have O6 := Lib.hid ho; have D6 := Lib.hid ((D5.out.alloc D5.out.size _).trans hb6); clear ho hb6 hg6))
      go_ret
      exact ⟨_, rfl, by rw [HQ2.out]; exact O6.out, D6.out⟩
    · have HQ2 := Lib.hid (HQ.out.trans (by rw [if_neg h0]))
      have d0 : (CE == 0) = false := by simpa using h0
      clear h0
      go_enter Try.func15, Try.ntmps15
      go_wp2_with (first
        | (refine Blk.load rfl 23 (.tmp 2) rfl _ _ _ _ rfl X.out.1 Try.underlying23 rfl (by kernel_rfl) ?_)
        | (go_at_call 59; refine (HR.out _).mono ?_; rintro e v1 ⟨rfl, hb1⟩; have D1 := Lib.hid (X.out.2.2.trans (hb1.mono X.out.2.2.size)); have C1 := Lib.hid (X.out.2.1.call hb1); have z1 := C1.out.lt; clear hb1; have O1 := Lib.hid (own_blk (base := w.heap.size) (l := [(⟨1, 0⟩ : COp)]) cop_len (Blk.new v1 35 #[.int .i64 1, .int .i64 0]) rfl (by unfold maxLen; simp) D1.out.size); have D2 := Lib.hid (D1.out.alloc D1.out.size (.cells #[.int .i64 1, .int .i64 0] 35)); have C2 := Lib.hid (C1.out.alloc (.cells #[.int .i64 1, .int .i64 0] 35)))
        | (refine Blk.load rfl 27 (.tmp 3) rfl _ _ _ _ rfl C2.out Try.underlying27 rfl (by kernel_rfl) ?_)
        | (go_at_call 60; refine (HK.out _).mono ?_; rintro e v2 ⟨rfl, hb2⟩; have D3 := Lib.hid (D2.out.trans (hb2.mono D2.out.size)); have O2 := Lib.hid (O1.out.call hb2); clear hb2)
        | (at_builtin; refine push_c _ rfl (.tmp 19) (.tmp 21) rfl w.heap.size _ _ rfl (O2.out.alloc _) v2.heap.size 35 1 ⟨7, 0⟩ rfl (Blk.new _ _ _) (by simp) (by have := D3.out.size; simp; omega) ?_; intro v' w6 ho hb6 hg6; obtain ⟨A6, n6, c6, rfl, -, -⟩ := ho.shape cop_len; have O6 := Lib.hid ho; have D6 := Lib.hid ((D3.out.alloc D3.out.size _).trans hb6); clear ho hb6 hg6))
      go_ret
      exact ⟨_, rfl, by rw [HQ2.out]; exact O6.out, D6.out⟩
  · have hcE : cfgErr c = 1 := if_neg hok
    have hdE : decide c.okC = false := decide_eq_false hok
    have HQ := Lib.hid (show stepsq c k s t v p = [] from by unfold stepsq opsq; rw [hdE]; rfl)
    rw [hcE] at HR
    clear hok hcE hdE hc
    go_enter Try.func15, Try.ntmps15
    go_wp2_with (first
      | (refine Blk.load rfl 23 (.tmp 2) rfl _ _ _ _ rfl X.out.1 Try.underlying23 rfl (by kernel_rfl) ?_)
      | (go_at_call 59; refine (HR.out _).mono ?_; rintro e v1 ⟨rfl, hb1⟩; have D1 := Lib.hid (X.out.2.2.trans (hb1.mono X.out.2.2.size)); clear hb1))
    go_ret
    exact ⟨_, rfl, by rw [HQ.out]; exact Own.nil _ _ _ _ _, D1.out⟩
theorem ref29_Ops (c : Cfg) (k : Int) (s : ByteArray) (t v h : Int) (p : Pol) (w : World) (hs : s.size ≤ maxLen) (hc : c.fit) :
    Calls Try.prog 16 #[.agg c.row, .agg (callRow k s t v h p)] w (OwnedD w (stepsq c k s t v p)) := by
  have HR := Lib.hid (fun W => ref17_Right c W hc)
  have HK := Lib.hid (fun W => ref21_Check k s t v h p W hs)
  have X := Lib.hid (And.intro ((Blk.new w 23 c.row).alloc (.cells (callRow k s t v h p) 27)) (And.intro (Blk.new2 w (.cells c.row 23) 27 (callRow k s t v h p)) (show Below w.heap.size w ((w.alloc (.cells c.row 23)).alloc (.cells (callRow k s t v h p) 27)) by go_grown)))
  by_cases hok : c.okC
  · obtain ⟨n, hn, h64⟩ : ∃ n : Nat, c.str = n ∧ n ≤ 64 := by
      have := right_cases hok.1
      exact ⟨c.str.toNat, by omega, by omega⟩
    have HI := Lib.hid (fun W => ref29_Inner c k s t v h p n W hs hc hn h64)
    have hcE : cfgErr c = 0 := if_pos hok
    have hdE : decide c.okC = true := decide_eq_true hok
    have HQ := Lib.hid (show stepsq c k s t v p = [⟨1, 0⟩] ++ (if callErr k s t v p = 0 then inq (homeq c s) n k else []) ++ [⟨7, 0⟩] from by
      unfold stepsq opsq; rw [hdE, if_pos rfl, hn]; rfl)
    have HLn := Lib.hid (inq_len (homeq c s) n k)
    rw [hdE] at HR
    generalize stepsq c k s t v p = R at *
    generalize inq (homeq c s) n k = LI at *
    clear hok hcE hdE hn hc
    generalize hE : callErr k s t v p = CE at *
    clear hE
    by_cases h0 : CE = 0
    · have HQ2 := Lib.hid (HQ.out.trans (by rw [if_pos h0]))
      subst h0
      go_enter Try.func16, Try.ntmps16
      go_wp2_with (first
        | (refine Blk.load rfl 23 (.tmp 2) rfl _ _ _ _ rfl X.out.1 Try.underlying23 rfl (by kernel_rfl) ?_)
        | (go_at_call 62; refine (HR.out _).mono ?_; rintro e v1 ⟨rfl, hb1⟩; have D1 := Lib.hid (X.out.2.2.trans (hb1.mono X.out.2.2.size)); have B1 := Lib.hid (X.out.1.call hb1); have C1 := Lib.hid (X.out.2.1.call hb1); have z1 := C1.out.lt; clear hb1; have O1 := Lib.hid (own_blk (base := w.heap.size) (l := [(⟨1, 0⟩ : COp)]) cop_len (Blk.new v1 36 #[.int .i64 1, .int .i64 0]) rfl (by unfold maxLen; simp) D1.out.size); have D2 := Lib.hid (D1.out.alloc D1.out.size (.cells #[.int .i64 1, .int .i64 0] 36)); have B2 := Lib.hid (B1.out.alloc (.cells #[.int .i64 1, .int .i64 0] 36)); have C2 := Lib.hid (C1.out.alloc (.cells #[.int .i64 1, .int .i64 0] 36)))
        | (refine Blk.load rfl 27 (.tmp 3) rfl _ _ _ _ rfl C2.out Try.underlying27 rfl (by kernel_rfl) ?_)
        | (go_at_call 63; refine (HK.out _).mono ?_; rintro e v2 ⟨rfl, hb2⟩; have D3 := Lib.hid (D2.out.trans (hb2.mono D2.out.size)); have B3 := Lib.hid (B2.out.call hb2); have C3 := Lib.hid (C2.out.call hb2); have O2 := Lib.hid (O1.out.call hb2); clear hb2)
        | (refine Blk.load rfl 23 (.tmp 2) rfl _ _ _ _ rfl B3.out Try.underlying23 rfl (by kernel_rfl) ?_)
        | (refine Blk.load rfl 27 (.tmp 3) rfl _ _ _ _ rfl C3.out Try.underlying27 rfl (by kernel_rfl) ?_)
        | (go_at_call 64; refine (HI.out _).mono ?_; rintro e v3 ⟨V3, rfl, o3, hb3⟩; obtain ⟨A3, n3, c3, rfl, hn3, hs3⟩ := o3.shape cop_len; have S3 := Lib.hid hs3; have N3 := Lib.hid hn3; have D4 := Lib.hid (D3.out.trans (hb3.mono D3.out.size)); have O3 := Lib.hid (O2.out.call hb3); clear hb3 hn3 hs3 o3)
        | (at_builtin; refine cat_d _ rfl (.tmp 14) (.tmp 17) rfl w.heap.size _ _ rfl O3.out A3 n3 c3 LI rfl S3.out (by have := N3.out; have := HLn.out; simp; omega) D4.out.size ?_; intro v' w5 ho hb5 hg5; obtain ⟨A5, n5, c5, rfl, -, -⟩ := ho.shape cop_len; have O5 := Lib.hid ho; have D5 := Lib.hid (D4.out.trans hb5); clear ho hb5 hg5)
        | (at_builtin; refine push_d _ rfl (.tmp 19) (.tmp 21) rfl w.heap.size _ _ rfl (O5.out.alloc _) w5.heap.size 36 1 ⟨7, 0⟩ rfl (Blk.new _ _ _) (by have := HLn.out; simp; omega) (by have := D5.out.size; simp; omega) ?_; intro v' w6 ho hb6 hg6; obtain ⟨A6, n6, c6, rfl, -, -⟩ := ho.shape cop_len; have O6 := Lib.hid ho; have D6 := Lib.hid ((D5.out.alloc D5.out.size _).trans hb6); clear ho hb6 hg6))
      go_ret
      exact ⟨_, rfl, by rw [HQ2.out]; exact O6.out, D6.out⟩
    · have HQ2 := Lib.hid (HQ.out.trans (by rw [if_neg h0]))
      have d0 : (CE == 0) = false := by simpa using h0
      clear h0
      go_enter Try.func16, Try.ntmps16
      go_wp2_with (first
        | (refine Blk.load rfl 23 (.tmp 2) rfl _ _ _ _ rfl X.out.1 Try.underlying23 rfl (by kernel_rfl) ?_)
        | (go_at_call 62; refine (HR.out _).mono ?_; rintro e v1 ⟨rfl, hb1⟩; have D1 := Lib.hid (X.out.2.2.trans (hb1.mono X.out.2.2.size)); have C1 := Lib.hid (X.out.2.1.call hb1); have z1 := C1.out.lt; clear hb1; have O1 := Lib.hid (own_blk (base := w.heap.size) (l := [(⟨1, 0⟩ : COp)]) cop_len (Blk.new v1 36 #[.int .i64 1, .int .i64 0]) rfl (by unfold maxLen; simp) D1.out.size); have D2 := Lib.hid (D1.out.alloc D1.out.size (.cells #[.int .i64 1, .int .i64 0] 36)); have C2 := Lib.hid (C1.out.alloc (.cells #[.int .i64 1, .int .i64 0] 36)))
        | (refine Blk.load rfl 27 (.tmp 3) rfl _ _ _ _ rfl C2.out Try.underlying27 rfl (by kernel_rfl) ?_)
        | (go_at_call 63; refine (HK.out _).mono ?_; rintro e v2 ⟨rfl, hb2⟩; have D3 := Lib.hid (D2.out.trans (hb2.mono D2.out.size)); have O2 := Lib.hid (O1.out.call hb2); clear hb2)
        | (at_builtin; refine push_d _ rfl (.tmp 19) (.tmp 21) rfl w.heap.size _ _ rfl (O2.out.alloc _) v2.heap.size 36 1 ⟨7, 0⟩ rfl (Blk.new _ _ _) (by simp) (by have := D3.out.size; simp; omega) ?_; intro v' w6 ho hb6 hg6; obtain ⟨A6, n6, c6, rfl, -, -⟩ := ho.shape cop_len; have O6 := Lib.hid ho; have D6 := Lib.hid ((D3.out.alloc D3.out.size _).trans hb6); clear ho hb6 hg6))
      go_ret
      exact ⟨_, rfl, by rw [HQ2.out]; exact O6.out, D6.out⟩
  · have hcE : cfgErr c = 1 := if_neg hok
    have hdE : decide c.okC = false := decide_eq_false hok
    have HQ := Lib.hid (show stepsq c k s t v p = [] from by unfold stepsq opsq; rw [hdE]; rfl)
    rw [hdE] at HR
    clear hok hcE hdE hc
    go_enter Try.func16, Try.ntmps16
    go_wp2_with (first
      | (refine Blk.load rfl 23 (.tmp 2) rfl _ _ _ _ rfl X.out.1 Try.underlying23 rfl (by kernel_rfl) ?_)
      | (go_at_call 62; refine (HR.out _).mono ?_; rintro e v1 ⟨rfl, hb1⟩; have D1 := Lib.hid (X.out.2.2.trans (hb1.mono X.out.2.2.size)); clear hb1))
    go_ret
    exact ⟨_, rfl, by rw [HQ.out]; exact Own.nil _ _ _ _ _, D1.out⟩
end Go.Proofs.Ytkjmacdekfbfhaa
