/- Several texts in one. -/
import Derived.Test.YtjodpffdlggjgaaKDecideFollows5
import Derived.Test.YtjodpffdlggjgaaKAuditFine1
import Derived.Test.YtjodpffdlggjgaaRegT
import Derived.Test.YtjodpffdlggjgaaPush2
import Derived.Test.YtjodpffdlggjgaaEqs
/- Which rules decisions break, one after the other; those that are made break none. -/
namespace Go.Proofs.Ytjodpffdlggjgaa
open Go.RowKit
set_option linter.unusedSimpArgs false
set_option linter.unusedVariables false
def pastq (room : Int) (past l : List Adv) : List Adv := l.foldl (fun q a => hush q room a) past
def ruls (p : Pol) (room : Int) : List Adv → List Adv → List Int
  | past, [] => []
  | past, a :: l => ruleq p past a :: ruls p room (hush past room a) l
theorem ruls_snoc (p : Pol) (room : Int) (l : List Adv) (x : Adv) : ∀ past, ruls p room past (l ++ [x]) = ruls p room past l ++ [ruleq p (pastq room past l) x] := by
  induction l with
  | nil => intro past; rfl
  | cons a l ih => intro past; show _ :: ruls p room _ (l ++ [x]) = _; rw [ih]; rfl
theorem pastq_snoc (room : Int) (l : List Adv) (x : Adv) (past : List Adv) : pastq room past (l ++ [x]) = hush (pastq room past l) room x := by
  unfold pastq; rw [List.foldl_append]; rfl
theorem ruls_next (p : Pol) (room : Int) {l : List Adv} {k : Nat} {x : Adv} (h : l[k]? = some x) : ruls p room [] (l.take (k + 1)) = ruls p room [] (l.take k) ++ [ruleq p (pastq room [] (l.take k)) x] ∧ pastq room [] (l.take (k + 1)) = hush (pastq room [] (l.take k)) room x := by
  rw [take_snoc2 h]; exact ⟨ruls_snoc p room _ x [], pastq_snoc room _ x []⟩
theorem ruls_len (p : Pol) (room : Int) (l : List Adv) : ∀ past, (ruls p room past l).length = l.length := by
  induction l with
  | nil => intro past; rfl
  | cons a l ih => intro past; show (_ :: ruls p room _ l).length = _; rw [List.length_cons, ih]; rfl
theorem ruls_take (p : Pol) (room : Int) (l : List Adv) (k : Nat) : ∀ past, (ruls p room past l).take k = ruls p room past (l.take k) := by
  induction l generalizing k with
  | nil => intro past; simp [ruls]
  | cons a l ih =>
    intro past
    cases k with
    | zero => rfl
    | succ k => show _ :: (ruls p room _ l).take k = _ :: ruls p room _ (l.take k); rw [ih]
theorem pastq_len (room : Int) (l : List Adv) : (pastq room [] l).length ≤ 64 := by
  have key : ∀ (l past : List Adv), past.length ≤ 64 → (pastq room past l).length ≤ 64 := by
    intro l
    induction l with
    | nil => intro past h; exact h
    | cons a l ih =>
      intro past h
      refine ih _ ?_
      show (hush past room a).length ≤ 64
      unfold hush
      split
      · unfold pushq
        split
        · rw [List.length_drop, List.length_append]; simp; omega
        · omega
      · simp
  exact key l [] (by simp)
/-- i is the place of the first number of rs that is not 0, which is r; or there is none. -/
def IsFirst (rs : List Int) (i r : Int) : Prop := (i = -1 ∧ r = 0 ∧ ∀ x ∈ rs, x = 0) ∨ ∃ k : Nat, i = k ∧ rs[k]? = some r ∧ r ≠ 0 ∧ ∀ j, j < k → rs[j]? = some 0
theorem IsFirst.zero {rs : List Int} {i r : Int} (h : IsFirst rs i r) (hz : ∀ x ∈ rs, x = 0) : i = -1 ∧ r = 0 := by
  rcases h with ⟨h1, h2, -⟩ | ⟨k, -, h2, h3, -⟩
  · exact ⟨h1, h2⟩
  · exact absurd (hz r (List.mem_of_getElem? h2)) h3
theorem IsFirst.same {rs : List Int} {i r i' r' : Int} (h : IsFirst rs i r) (h' : IsFirst rs i' r') : i = i' ∧ r = r' := by
  rcases h with ⟨rfl, rfl, hz⟩ | ⟨k, rfl, h2, h3, h4⟩
  · obtain ⟨h1, h2⟩ := h'.zero hz; exact ⟨h1.symm, h2.symm⟩
  · rcases h' with ⟨-, -, hz⟩ | ⟨k', rfl, h2', h3', h4'⟩
    · exact absurd (hz r (List.mem_of_getElem? h2)) h3
    · have : k = k' := by
        rcases Nat.lt_trichotomy k k' with hlt | he | hgt
        · have := h4' k hlt; rw [h2] at this; injection this with this; exact absurd this h3
        · exact he
        · have := h4 k' hgt; rw [h2'] at this; injection this with this; exact absurd this h3'
      subst this
      rw [h2] at h2'; injection h2' with h2'
      exact ⟨rfl, h2'⟩
theorem meanq_I64 (l : List Int) : I64 (meanq l) := by
  unfold meanq smallQ I64
  split
  · omega
  · split <;> omega
theorem made_fine (p : Pol) (l : List Smp) (past : List Adv) (hk : p.okP) (hg : ∀ x ∈ l, x.good) : ruleq p past (decq p l past) = 0 ∧ (decq p l past).good := by
  obtain ⟨k1, k2, k3, k4, k5, k6, k7, k8, k9⟩ := id hk
  have hb : ∀ n, p.min ≤ boundq p n ∧ boundq p n ≤ p.max := fun n => by
    unfold boundq clampq
    rw [if_pos hk]
    split
    · omega
    · split <;> omega
  have hT := latestq_I64 hg
  unfold decq
  dsimp only
  generalize latestq l = T at *
  have hM := meanq_I64 (valq (cutq l (fromq T p.window) T))
  generalize meanq (valq (cutq l (fromq T p.window) T)) = load at *
  have hr := raw_open2 p load (nowq p past)
  generalize openq p load (nowq p past) = op at *
  generalize hS : steadyq p T (boundq p op) past = S
  obtain ⟨s1, s2⟩ := S
  have h1 := hb op
  have h2 := hb s1
  refine ⟨?_, ?_⟩
  · unfold ruleq
    dsimp only
    rw [hS]
    have hw : 1 ≤ whyq p s2 op (nowq p past) (boundq p s1) ∧ whyq p s2 op (nowq p past) (boundq p s1) ≤ 6 ∧ (s2 = decide (whyq p s2 op (nowq p past) (boundq p s1) = 4)) ∧ (whyq p s2 op (nowq p past) (boundq p s1) = 2 → nowq p past < boundq p s1) ∧ (whyq p s2 op (nowq p past) (boundq p s1) = 3 → boundq p s1 < nowq p past) ∧ (whyq p s2 op (nowq p past) (boundq p s1) = 1 → boundq p s1 = nowq p past) := by
      unfold whyq
      cases s2
      · simp only [Bool.false_eq_true, if_false]
        split
        · simp
        · split
          · simp
          · split
            · simp; omega
            · split
              · simp; omega
              · simp; omega
      · simp
    generalize whyq p s2 op (nowq p past) (boundq p s1) = y at *
    obtain ⟨w1, w2, w3, w4, w5, w6⟩ := hw
    rw [if_neg (by omega), if_neg (by omega)]
    have hh : polHas p (boundq p s1) = true := by unfold polHas; exact decide_eq_true ⟨hk, h2.1, h2.2⟩
    rw [if_neg (by rw [hh]; simp), if_neg (by rw [hr]; simp), if_neg (by simp), if_neg (by simpa using w3)]
    refine if_neg ?_
    unfold whyOk
    dsimp only
    split
    · rename_i e; simp; exact w4 e
    · split
      · rename_i e; simp; exact w5 e
      · split
        · rename_i e; simp; exact w6 e
        · simp
  · refine ⟨hT, hM, ?_, ?_, ?_⟩
    · show I64 (boundq p op); unfold I64; omega
    · show I64 (boundq p s1); unfold I64; omega
    · show I64 (whyq p s2 op (nowq p past) (boundq p s1)); unfold I64 whyq
      split
      · omega
      · split
        · omega
        · split
          · omega
          · split
            · omega
            · split <;> omega
theorem fine_next (p : Pol) (sm rm : Int) (st : Fst) (x : Smp) (hg : ∀ y ∈ st.smps, y.good) (hx : x.good) (h1 : st.past = pastq rm [] st.out) (h2 : ∀ r ∈ ruls p rm [] st.out, r = 0) (h3 : ∀ a ∈ st.out, a.good) (hr : 1 ≤ rm ∧ rm ≤ 64) :
    (fstep p sm rm st x).past = pastq rm [] (fstep p sm rm st x).out ∧ (∀ r ∈ ruls p rm [] (fstep p sm rm st x).out, r = 0) ∧ ∀ a ∈ (fstep p sm rm st x).out, a.good := by
  by_cases he : errr sm x = 0
  · by_cases ho : ofe p (putr st.smps sm x) = 0
    · rw [fstep_ok he ho hr]
      have hk : p.okP := Classical.byContradiction fun hn => by rw [(ofq_no (past := st.past) hn).2] at ho; omega
      have hl : (putr st.smps sm x).length ≠ 0 := fun hn => by rw [(ofq_nil (past := st.past) hk hn).2] at ho; omega
      rw [(ofq_ok (past := st.past) hk hl).1]
      obtain ⟨m1, m2⟩ := made_fine p (putr st.smps sm x) st.past hk (good_putr hg hx sm)
      refine ⟨?_, fun r hr => ?_, fun a ha => ?_⟩
      · show hush st.past rm _ = _
        rw [pastq_snoc, ← h1]
      · replace hr : r ∈ ruls p rm [] (st.out ++ [decq p (putr st.smps sm x) st.past]) := hr
        rw [ruls_snoc, ← h1, m1] at hr
        rcases List.mem_append.1 hr with hr | hr
        · exact h2 r hr
        · simpa using hr
      · rcases List.mem_append.1 ha with ha | ha
        · exact h3 a ha
        · simp at ha; subst ha; exact m2
    · rw [fstep_skip he ho]; exact ⟨h1, h2, h3⟩
  · rw [fstep_no he]; exact ⟨h1, h2, h3⟩
theorem fol_fine (p : Pol) (sm rm : Int) (l : List Smp) (hg : ∀ x ∈ l, x.good) : (∀ r ∈ ruls p rm [] (folq p sm rm l).out, r = 0) ∧ ∀ a ∈ (folq p sm rm l).out, a.good := by
  by_cases hr : 1 ≤ rm ∧ rm ≤ 64
  · have h := folq_all (fun n st => (∀ y ∈ st.smps, y.good) ∧ st.past = pastq rm [] st.out ∧ (∀ r ∈ ruls p rm [] st.out, r = 0) ∧ ∀ a ∈ st.out, a.good) p sm rm l ⟨fun y hy => (by cases hy), rfl, fun r hr => (by cases hr), fun a ha => (by cases ha)⟩ (fun n st x hx h => ⟨by rw [fstep_smps]; exact good_putr h.1 (hg x hx) sm, fine_next p sm rm st x h.1 (hg x hx) h.2.1 h.2.2.1 h.2.2.2 hr⟩) l.length (Nat.le_refl _)
    rw [List.take_length] at h
    exact ⟨h.2.2.1, h.2.2.2⟩
  · rw [folq_bad p sm rm l (.inr hr)]
    exact ⟨fun r hr => (by cases hr), fun a ha => (by cases ha)⟩
end Go.Proofs.Ytjodpffdlggjgaa
/- audit.Check: the walk. (fast region) -/
namespace Go.Proofs.Ytjodpffdlggjgaa
open Go.RowKit
set_option linter.unusedSimpArgs false
set_option linter.unusedVariables false
set_option maxHeartbeats 8000000
set_option maxRecDepth 100000
/-- A history of the call's own. -/
def ChkIn (w1 wr : World) (ph : Option Addr) (past : List Adv) (rm : Int) : Prop := ∃ F, HistAt wr ph F past rm ∧ (∀ k, F k → w1.heap.size ≤ k) ∧ Below w1.heap.size w1 wr ∧ w1.heap.size ≤ wr.heap.size
theorem ChkIn.call {w1 wr w' : World} {ph : Option Addr} {past : List Adv} {rm : Int} (h : ChkIn w1 wr ph past rm) (hb : Below wr.heap.size wr w') : ChkIn w1 w' ph past rm := by
  obtain ⟨F, h1, h2, h3, h4⟩ := h
  exact ⟨F, h1.call hb, h2, h3.trans (hb.mono h4), Nat.le_trans h4 hb.size⟩
theorem ChkIn.bel {w1 wr : World} {ph : Option Addr} {past : List Adv} {rm : Int} (h : ChkIn w1 wr ph past rm) : Below w1.heap.size w1 wr := by
  obtain ⟨F, h1, h2, h3, h4⟩ := h; exact h3
theorem ChkIn.hist {w1 wr : World} {ph : Option Addr} {past : List Adv} {rm : Int} (h : ChkIn w1 wr ph past rm) : ∃ F, HistAt wr ph F past rm ∧ ∀ x e w', AddPost ph F past rm x wr e w' → e = .returned (.bool (decide (1 ≤ rm ∧ rm ≤ 64))) ∧ ChkIn w1 w' ph (hush past rm x) rm := by
  obtain ⟨F, h1, h2, h3, h4⟩ := h
  refine ⟨F, h1, ?_⟩
  rintro x e w' ⟨F', rfl, k1, k2, k3⟩
  exact ⟨rfl, F', k1, fun k hk => (k3 k hk).elim (h2 k) (fun h => Nat.le_trans h4 h), h3.trans (k2.below h2 h4), Nat.le_trans h4 k2.size⟩
def ChkPost (p : Pol) (rm : Int) (l : List Adv) (w : World) (e : Ending) (w' : World) : Prop := ∃ i r, e = .returned (.tuple #[.int .i64 i, .int .i64 r]) ∧ IsFirst (ruls p rm [] l) i r ∧ Below w.heap.size w w'
theorem isFirst_at {p : Pol} {rm : Int} {l : List Adv} {k : Nat} {x : Adv} (hx : l[k]? = some x) (hz : ∀ r ∈ ruls p rm [] (l.take k), r = 0) (hr : ruleq p (pastq rm [] (l.take k)) x ≠ 0) : IsFirst (ruls p rm [] l) k (ruleq p (pastq rm [] (l.take k)) x) := by
  have hk : k < l.length := (List.getElem?_eq_some_iff.1 hx).1
  have h1 := (ruls_next p rm hx).1
  have h2 := ruls_take p rm l (k + 1) []
  have hlen : (ruls p rm [] (l.take k)).length = k := by rw [ruls_len, List.length_take]; omega
  refine .inr ⟨k, rfl, ?_, hr, fun j hj => ?_⟩
  · have : ((ruls p rm [] l).take (k + 1))[k]? = some (ruleq p (pastq rm [] (l.take k)) x) := by
      rw [h2, h1, List.getElem?_append_right (by omega), hlen]; simp
    rwa [List.getElem?_take, if_pos (by omega)] at this
  · have h3 := ruls_take p rm l k []
    have h4 : j < (ruls p rm [] (l.take k)).length := by omega
    have h5 : (ruls p rm [] (l.take k))[j]? = some ((ruls p rm [] (l.take k))[j]) := List.getElem?_eq_getElem h4
    rw [hz _ (List.getElem_mem h4), ← h3, List.getElem?_take, if_pos hj] at h5
    exact h5
theorem audit_Check (p : Pol) (A : Option Addr) (len cap : Nat) (l : List Adv) (rm : Int) (w : World) (hp : p.fit) (hs : AdvsAre w A len cap l) (hg : ∀ x ∈ l, x.good) (hn : len ≤ 1000) (hrm : I64 rm) :
    Calls Try.prog 28 #[(.agg #[.int .i64 p.min, .int .i64 p.max, .int .i64 p.target, .int .i64 p.tol, .int .i64 p.window, .int .i64 p.hold]), .slice A len cap, .int .i64 rm] w (ChkPost p rm l w) := by
  have HS := Lib.hid hs
  have HL := Lib.hid hs.1
  have HG := Lib.hid hg
  have HP := Lib.hid hp
  have HR := Lib.hid hrm
  have HN := Lib.hid (fun (k : Nat) (x : Adv) (h : l[k]? = some x) => ruls_next p rm h)
  have HAt := Lib.hid (fun (k : Nat) (x : Adv) (h : l[k]? = some x) hz hr => isFirst_at (p := p) (rm := rm) h hz hr)
  have HPl := Lib.hid (fun k => pastq_len rm (l.take k))
  clear hs hg hp hrm
  obtain ⟨w1, hw1⟩ : ∃ w1, w1 = w.alloc (.cells #[.int .i64 p.min, .int .i64 p.max, .int .i64 p.target, .int .i64 p.tol, .int .i64 p.window, .int .i64 p.hold] 23) := ⟨_, rfl⟩
  have B1 := Lib.hid (show Blk w1 w.heap.size 23 #[.int .i64 p.min, .int .i64 p.max, .int .i64 p.target, .int .i64 p.tol, .int .i64 p.window, .int .i64 p.hold] by rw [hw1]; exact Blk.new _ _ _)
  have E1 := Lib.hid (show Below w.heap.size w w1 by rw [hw1]; go_grown)
  go_enter Try.func28, Try.ntmps28
  go_upto_region 1 with (fail)
  rw [← hw1]
  clear hw1
  go_wp2_with (go_at_call 59; refine (history_New rm _ HR.out).mono ?_; rintro e v2 ⟨ph, FH, rfl, k1, k2, k3⟩; have F2 := Lib.hid (show ChkIn w1 v2 ph [] rm from ⟨FH, k1, k2, k3, k3.size⟩); clear k1 k2 k3)
  go_loopw [16] (fun i wr => ∃ k : Nat, k ≤ len ∧ i = .int .i64 k ∧ ChkIn w1 wr ph (pastq rm [] (l.take k)) rm ∧ ∀ r ∈ ruls p rm [] (l.take k), r = 0) (fun i _ => len - (intOf i).toNat)
  case atStart => exact ⟨0, Nat.zero_le _, rfl, F2.out, fun r hr => (by cases hr)⟩
  case round =>
    obtain ⟨k, hk, rfl, hin, hz⟩ := hrel
    have HI := Lib.hid hin
    have HZ := Lib.hid hz
    clear hin hz
    by_cases hlt : k < len
    · obtain ⟨b, off, x, rfl, hx, hb, t0, t1, t2, t3, t4⟩ := HS.out.at_ hlt
      have hbw := E1.out.trans (HI.out.bel.mono E1.out.size)
      have kt0 := (hbw.cell (p := ⟨b, off + k * 5, none⟩) hb).trans t0
      have kt1 := (hbw.cell (p := ⟨b, off + k * 5 + 1, none⟩) hb).trans t1
      have kt2 := (hbw.cell (p := ⟨b, off + k * 5 + 2, none⟩) hb).trans t2
      have kt3 := (hbw.cell (p := ⟨b, off + k * 5 + 3, none⟩) hb).trans t3
      have kt4 := (hbw.cell (p := ⟨b, off + k * 5 + 4, none⟩) hb).trans t4
      have hki : (k : Int) < (len : Int) := by omega
      have HN1 := Lib.hid (HN.out k x hx)
      have HAt1 := Lib.hid (HAt.out k x hx HZ.out)
      have HX := Lib.hid (HG.out x (List.mem_of_getElem? hx))
      have HPk := Lib.hid (HPl.out k)
      have I1 := Lib.hid (HI.out.call (w' := wr.alloc (.cells (rowA x) 26)) ((Below.refl _ wr).alloc (Nat.le_refl _) _))
      have X1 := Lib.hid (Blk.new wr 26 (rowA x))
      have B2 := Lib.hid (B1.out.call I1.out.bel)
      clear hx hb t0 t1 t2 t3 t4 hbw HI
      go_upto_region 5 with (fail)
      generalize pastq rm [] (l.take k) = past at *
      generalize wr.heap.size = g at *
      generalize wr.alloc (.cells (rowA x) 26) = w2 at *
      obtain ⟨F3, hH3, -⟩ := I1.out.hist
      have HH3 := Lib.hid hH3
      clear hH3
      have HRu := Lib.hid (fun W A n c hW hn => audit_Rule p A n c past x W HP.out HX.out hW hn)
      generalize ruleq p past x = RR at *
      refine wp_region_any (by kernel_rfl) ?_; change wpAny _ _ _ _ _ _ _ (World.drew w2); refine any_of_anyG (late := fun _ => false) (S := fun wS => Below w2.heap.size w2 wS) _ _ _ _ ?_
      have S0 := (Below.refl w2.heap.size w2).drew
      refine anyG_takes (is := [0, 1, 3]) (vs := [_, _, _]) (m := 3) (listed2 := #[true, true, false, true, false, false]) (a2 := ⟨#[_, _, _, _, _, _, _, _, _, _, _, _, _, _, _, _, _, _, _, _, _, _, _, _, _, _, _, _, _, _, _, _, _, _], _⟩) (by kernel_rfl) (fun j hj => by simp at hj) (by kernel_rfl) (fun _ _ _ _ _ h => h) (Ys.cons rfl (Or.inl ⟨by rfl, fun W1 hW1 => exec_load (ty := 23) (x := .tmp 3) rfl rfl (run_loadAt_blk _ _ _ _ _ _ (B2.out.call hW1) Try.underlying23 rfl (by first | kernel_rfl | exact info_num _))⟩) (Ys.cons rfl (Or.inl ⟨by rfl, fun W1 hW1 => by first | rfl | (go_simp; done) | (go_simp; with_reducible rfl)⟩) (Ys.cons rfl (Or.inl ⟨by rfl, fun W1 hW1 => exec_load (ty := 26) (x := .tmp 10) rfl rfl (run_loadAt_blk _ _ _ _ _ _ (X1.out.call hW1) Try.underlying26 rfl (by first | kernel_rfl | exact info_num _))⟩) (Ys.nil)))) (S0) (by rfl) (by rfl) ?_
      refine anyG_one (k := 2) (by kernel_rfl) rfl (by rfl) (fun Q2 hQ2 => ?_); go_wp2_with (go_at_call 60; refine (history_List ph F3 past rm _ (HH3.out.call S0)).mono ?_; rintro e v4 ⟨u4, rfl, ho4, hb4⟩; obtain ⟨A4, n4, c4, rfl, -, -⟩ := ho4.shape adv_len; have L4 := Lib.hid (ownA_is ho4); clear ho4); refine hQ2 _ _ (fun _ => S0.trans (hb4.mono S0.size)) ?_; clear hQ2 Q2
      have S4 := S0.trans (hb4.mono S0.size)
      refine anyG_one (k := 4) (by kernel_rfl) rfl (by rfl) (fun Q2 hQ2 => ?_); go_wp2_with (go_at_call 12; refine (HRu.out _ A4 n4 c4 L4.out (Nat.le_trans (Nat.le_of_eq L4.out.1.symm) (Nat.le_trans HPk.out (by decide)))).mono ?_; rintro e v5 ⟨rfl, hb5⟩); refine hQ2 _ _ (fun _ => S4.trans (hb5.mono S4.size)) ?_; clear hQ2 Q2
      have S5 := S4.trans (hb5.mono S4.size)
      refine anyG_takes (is := [5]) (vs := [.int .i64 RR]) (m := 0) (listed2 := #[true, true, true, true, true, true]) (a2 := ⟨#[_, _, _, _, _, _, _, _, _, _, _, _, _, _, _, _, _, _, _, _, _, _, _, _, _, _, _, _, _, _, _, _, _, _], _⟩) (by kernel_rfl) (fun j hj => by simp at hj) (by kernel_rfl) (fun _ _ _ _ _ h => h) (Ys.cons rfl (Or.inl ⟨by rfl, fun W1 hW1 => by rfl⟩) (Ys.nil)) (S5) (by rfl) (by rfl) ?_
      refine anyG_done (by kernel_rfl) ?_ _
      have I5 := Lib.hid (I1.out.call S5)
      have X5 := Lib.hid (X1.out.call S5)
      by_cases hr : RR = 0
      · have d1 : (RR != 0) = false := by rw [hr]; rfl
        have HR0 := Lib.hid hr
        obtain ⟨F6, hH6, hA6⟩ := I5.out.hist
        have HH6 := Lib.hid hH6
        have HA6 := Lib.hid hA6
        clear hr hH6 hA6
        go_wp2_with (first
          | (refine Blk.load rfl 26 (.tmp 10) rfl _ _ _ _ rfl X5.out Try.underlying26 rfl (by kernel_rfl) ?_)
          | (go_at_call 61; refine (history_Add ph F6 past rm x _ HH6.out).mono ?_; intro e w6 hp; obtain ⟨rfl, hI6⟩ := HA6.out x _ _ hp; have I6 := Lib.hid hI6; clear hp hI6))
        go_roundw
        case rel => exact ⟨k + 1, by omega, by go_num, by rw [HN1.out.2]; exact I6.out, fun r hr => by
          rw [HN1.out.1] at hr
          rcases List.mem_append.1 hr with hr | hr
          · exact HZ.out r hr
          · rw [List.mem_singleton.1 hr]; exact HR0.out⟩
        case measure => simp [intOf]; omega
      · have d1 : (RR != 0) = true := by simpa using hr
        have HF := Lib.hid (HAt1.out hr)
        clear hr
        go_wp2
        go_returns
        exact ⟨_, _, rfl, HF.out, E1.out.trans (I5.out.bel.mono E1.out.size)⟩
    · have hE : l.take k = l := List.take_of_length_le (by have := HL.out; omega)
      rw [hE] at HI HZ
      go_wp2
      go_returns
      exact ⟨-1, 0, rfl, .inl ⟨rfl, rfl, HZ.out⟩, E1.out.trans (HI.out.bel.mono E1.out.size)⟩
end Go.Proofs.Ytjodpffdlggjgaa
/- flywheelref48.Rules: the walk. (fast region) -/
namespace Go.Proofs.Ytjodpffdlggjgaa
open Go.RowKit
set_option linter.unusedSimpArgs false
set_option linter.unusedVariables false
set_option maxHeartbeats 8000000
set_option maxRecDepth 100000
abbrev cellN (x : Int) : List Value := [.int .i64 x]
abbrev OwnN (w : World) (base : Nat) (v : Value) (l : List Int) : Prop := Own w base 3 1 cellN v l
theorem info_goint : (Try.prog.info? 3).map (fun i => (i.zero, i.size, i.bytes)) = some (some (.int .i64 0), 1, 8) := by kernel_rfl
theorem one_int : ∀ x : Int, ∀ u ∈ cellN x, u.oneCell' = true := by
  intro x u hu
  simp [cellN] at hu
  subst hu; rfl
theorem ruleq_bd (p : Pol) (past : List Adv) (a : Adv) : 0 ≤ ruleq p past a ∧ ruleq p past a ≤ 5 := by
  unfold ruleq
  repeat' split
  all_goals omega
theorem pastq_bad (room : Int) (hb : ¬ (1 ≤ room ∧ room ≤ 64)) (l : List Adv) : pastq room [] l = [] := by
  have key : ∀ l : List Adv, pastq room [] l = [] := by
    intro l
    induction l with
    | nil => rfl
    | cons a l ih => show pastq room (hush [] room a) l = []; unfold hush; rw [if_neg hb]; exact ih
  exact key l
/-- The rules so far, and the past. -/
def RulIn (w1 wr : World) (A4 : Option Addr) (n4 c4 : Nat) (v : Value) (outs : List Int) (past : List Adv) : Prop :=
  AdvsAre wr A4 n4 c4 past ∧ OwnN wr w1.heap.size v outs ∧ (∀ a, A4 = some a → a.block < wr.heap.size ∧ v.ownBlock ≠ some a.block) ∧ Below w1.heap.size w1 wr ∧ w1.heap.size ≤ wr.heap.size
theorem RulIn.call {w1 wr w' : World} {A4 : Option Addr} {n4 c4 : Nat} {v : Value} {outs : List Int} {past : List Adv} (h : RulIn w1 wr A4 n4 c4 v outs past) (hb : Below wr.heap.size wr w') : RulIn w1 w' A4 n4 c4 v outs past := by
  obtain ⟨h2, h3, h5, h6, h7⟩ := h
  exact ⟨slice_keep h2 hb, h3.call hb, fun a ha => ⟨Nat.lt_of_lt_of_le (h5 a ha).1 hb.size, (h5 a ha).2⟩, h6.trans (hb.mono h7), Nat.le_trans h7 hb.size⟩
theorem RulIn.advs {w1 wr w' : World} {A4 : Option Addr} {n4 c4 : Nat} {v : Value} {outs : List Int} {past : List Adv} {A : Option Addr} {n c : Nat} {l : List Adv} (h : RulIn w1 wr A4 n4 c4 v outs past) (hs : AdvsAre w' A n c l) (hb : Below wr.heap.size wr w') (hf : ∀ a, A = some a → wr.heap.size ≤ a.block ∧ a.block < w'.heap.size) : RulIn w1 w' A n c v outs l := by
  obtain ⟨h2, h3, h5, h6, h7⟩ := h.call hb
  refine ⟨hs, h3, fun a ha => ⟨(hf a ha).2, fun e => ?_⟩, h6, h7⟩
  have := (World.ownsRow.lt h.2.1 _ e).2
  have := (hf a ha).1
  omega
theorem RulIn.push {w1 wr w' : World} {A4 : Option Addr} {n4 c4 : Nat} {v v' : Value} {outs : List Int} {past : List Adv} {x : Int} (h : RulIn w1 wr A4 n4 c4 v outs past) (ho : OwnN w' w1.heap.size v' (outs ++ [x])) (hu : Upd (fun k => v.ownBlock = some k) wr w') (hw : v'.ownBlock = v.ownBlock ∨ v'.ownBlock = some wr.heap.size) : RulIn w1 w' A4 n4 c4 v' (outs ++ [x]) past := by
  obtain ⟨h2, h3, h5, h6, h7⟩ := h
  have hlt := World.ownsRow.lt h3
  have key : ∀ a : Addr, a.block < wr.heap.size → v.ownBlock ≠ some a.block → v'.ownBlock ≠ some a.block := fun a ha hn e => by
    rcases hw with hw | hw
    · exact hn (hw.symm.trans e)
    · rw [hw] at e; injection e with e; omega
  exact ⟨slice_upd h2 hu (fun a ha => (h5 a ha).2), ho, fun a ha => ⟨Nat.lt_of_lt_of_le (h5 a ha).1 hu.size, key a (h5 a ha).1 (h5 a ha).2⟩, h6.trans (hu.below (fun k hk => (hlt k hk).1) h7), Nat.le_trans h7 hu.size⟩
theorem ref14_PutI (A : Option Addr) (len cap : Nat) (l : List Adv) (rm : Int) (x : Adv) (w : World) (hs : AdvsAre w A len cap l) (hn : len ≤ 10000) (hr : 1 ≤ rm ∧ rm ≤ 64) :
    Calls Try.prog 62 #[.slice A len cap, .int .i64 rm, .agg (rowA x)] w (PutA w (hush l rm x)) := by
  obtain ⟨R, rfl⟩ : ∃ R : Nat, rm = R := ⟨rm.toNat, by omega⟩
  have h := ref14_Put A len cap l R x w hs hn (by omega)
  unfold hush
  rw [if_pos hr]
  exact h
def RulPost (p : Pol) (rm : Int) (l : List Adv) (w : World) (e : Ending) (w' : World) : Prop := ∃ A n c, e = .returned (.slice A n c) ∧ OwnN w' w.heap.size (.slice A n c) (ruls p rm [] l) ∧ Below w.heap.size w w'
theorem ref48_Rules (p : Pol) (A : Option Addr) (len cap : Nat) (l : List Adv) (rm : Int) (w : World) (hp : p.fit) (hs : AdvsAre w A len cap l) (hg : ∀ x ∈ l, x.good) (hn : len ≤ 1000) :
    Calls Try.prog 29 #[(.agg #[.int .i64 p.min, .int .i64 p.max, .int .i64 p.target, .int .i64 p.tol, .int .i64 p.window, .int .i64 p.hold]), .slice A len cap, .int .i64 rm] w (RulPost p rm l w) := by
  have HS := Lib.hid hs
  have HL := Lib.hid hs.1
  have HG := Lib.hid hg
  have HP := Lib.hid hp
  have HN := Lib.hid (fun (k : Nat) (x : Adv) (h : l[k]? = some x) => ruls_next p rm h)
  have HPl := Lib.hid (fun k => pastq_len rm (l.take k))
  have HRl := Lib.hid (fun k => ruls_len p rm (l.take k) [])
  have HPb := Lib.hid (fun hb k => pastq_bad rm hb (l.take k))
  clear hs hg hp
  obtain ⟨w1, hw1⟩ : ∃ w1, w1 = w.alloc (.cells #[.int .i64 p.min, .int .i64 p.max, .int .i64 p.target, .int .i64 p.tol, .int .i64 p.window, .int .i64 p.hold] 23) := ⟨_, rfl⟩
  have B1 := Lib.hid (show Blk w1 w.heap.size 23 #[.int .i64 p.min, .int .i64 p.max, .int .i64 p.target, .int .i64 p.tol, .int .i64 p.window, .int .i64 p.hold] by rw [hw1]; exact Blk.new _ _ _)
  have E1 := Lib.hid (show Below w.heap.size w w1 by rw [hw1]; go_grown)
  have Z1 := Lib.hid (show w1.heap.size = w.heap.size + 1 by rw [hw1]; simp)
  go_enter Try.func29, Try.ntmps29
  go_upto_region 1 with (fail)
  rw [← hw1]
  clear hw1
  go_wp2
  go_loopw [7, 8, 9] (fun v v4 i wr => ∃ (k : Nat) (A4 : Option Addr) (n4 c4 : Nat), k ≤ len ∧ i = .int .i64 k ∧ v4 = .slice A4 n4 c4 ∧ RulIn w1 wr A4 n4 c4 v (ruls p rm [] (l.take k)) (pastq rm [] (l.take k))) (fun _ _ i _ => len - (intOf i).toNat)
  case atStart => exact ⟨0, none, 0, 0, Nat.zero_le _, rfl, rfl, slice_nil _ _ _, Own.nil _ _ _ _ _, fun a ha => (by cases ha), Below.refl _ _, Nat.le_refl _⟩
  case round =>
    obtain ⟨k, A4, n4, c4, hk, rfl, rfl, hin⟩ := hrel
    obtain ⟨A5, n5, c5, rfl, -, -⟩ := hin.2.1.shape (fun _ => rfl)
    have HI := Lib.hid hin
    clear hin
    by_cases hlt : k < len
    · obtain ⟨b, off, x, rfl, hx, hb, t0, t1, t2, t3, t4⟩ := HS.out.at_ hlt
      have hbw := E1.out.trans (HI.out.2.2.2.1.mono E1.out.size)
      have HC := Lib.hid (fun W (hW : Below w.heap.size w W) => (⟨(hW.cell (p := ⟨b, off + k * 5, none⟩) hb).trans t0, (hW.cell (p := ⟨b, off + k * 5 + 1, none⟩) hb).trans t1, (hW.cell (p := ⟨b, off + k * 5 + 2, none⟩) hb).trans t2, (hW.cell (p := ⟨b, off + k * 5 + 3, none⟩) hb).trans t3, (hW.cell (p := ⟨b, off + k * 5 + 4, none⟩) hb).trans t4⟩ : W.cell? ⟨b, off + k * 5, none⟩ = some (.int .i64 x.tick) ∧ W.cell? ⟨b, off + k * 5 + 1, none⟩ = some (.int .i64 x.load) ∧ W.cell? ⟨b, off + k * 5 + 2, none⟩ = some (.int .i64 x.want) ∧ W.cell? ⟨b, off + k * 5 + 3, none⟩ = some (.int .i64 x.repl) ∧ W.cell? ⟨b, off + k * 5 + 4, none⟩ = some (.int .i64 x.why)))
      have HBw := Lib.hid hbw
      have hki : (k : Int) < (len : Int) := by omega
      have HN1 := Lib.hid (HN.out k x hx)
      have HX := Lib.hid (HG.out x (List.mem_of_getElem? hx))
      have HPk := Lib.hid (HPl.out k)
      have HRk := Lib.hid (show (ruls p rm [] (l.take k)).length < 1000000 by rw [HRl.out k, List.length_take]; omega)
      have HPb1 := Lib.hid (fun hb => HPb.out hb k)
      clear hx hb t0 t1 t2 t3 t4 hbw
      generalize pastq rm [] (l.take k) = past at *
      generalize ruls p rm [] (l.take k) = outs at *
      have HRu := Lib.hid (fun W A n c hW hn => ref48_Rule p A n c past x W HP.out HX.out hW hn)
      generalize ruleq p past x = RR at *
      have B2 := Lib.hid (B1.out.call HI.out.2.2.2.1)
      have HLt := Lib.hid (World.ownsRow.lt HI.out.2.1)
      have HUB := Lib.hid (fun W1 (h : Upd (fun k => (Value.slice A5 n5 c5).ownBlock = some k) wr W1) => HBw.out.trans ((h.below (B := w1.heap.size) (fun k hk => (HLt.out k hk).1) HI.out.2.2.2.2).mono E1.out.size))
      go_upto_region 6 with (fail)
      refine wp_region_any (by kernel_rfl) ?_; change wpAny _ _ _ _ _ _ _ (World.drew wr); refine any_of_anyG (late := fun _ => false) (S := fun wS => Upd (fun k => (Value.slice A5 n5 c5).ownBlock = some k) wr wS) _ _ _ _ ?_
      have S0 := (Upd.refl (fun k => (Value.slice A5 n5 c5).ownBlock = some k) wr).drew
      refine anyG_takes (is := [0, 1, 2, 3, 4]) (vs := [_, _, _, _, _]) (m := 6) (listed2 := #[true, true, true, true, true, false, false, false, false, false, false]) (a2 := ⟨#[_, _, _, _, _, _, _, _, _, _, _, _, _, _, _, _, _, _, _, _, _, _, _, _, _, _, _, _, _, _, _, _, _, _, _, _, _, _, _, _], _⟩) (by kernel_rfl) (fun j hj => by simp at hj) (by kernel_rfl) (fun _ _ _ _ _ h => h) (Ys.cons rfl (Or.inl ⟨by rfl, fun W1 hW1 => by first | rfl | (go_simp; done) | (go_simp; with_reducible rfl)⟩) (Ys.cons rfl (Or.inl ⟨by rfl, fun W1 hW1 => exec_load (ty := 23) (x := .tmp 3) rfl rfl (run_loadAt_blk _ _ _ _ _ _ (B2.out.upd hW1 (fun hk => by have h1 := (HLt.out _ hk).1; have h2 := Z1.out; omega)) Try.underlying23 rfl (by first | kernel_rfl | exact info_num _))⟩) (Ys.cons rfl (Or.inl ⟨by rfl, fun W1 hW1 => by first | rfl | (go_simp; done) | (go_simp; with_reducible rfl)⟩) (Ys.cons rfl (Or.inl ⟨by rfl, fun W1 hW1 => by first | rfl | (go_simp; done) | (go_simp; with_reducible rfl)⟩) (Ys.cons rfl (Or.inl ⟨by rfl, fun W1 hW1 => by first | rfl | (go_simp; done) | (go_simp; with_reducible rfl)⟩) (Ys.nil)))))) (S0) (by rfl) (by rfl) ?_
      refine anyG_takes (is := [5, 6]) (vs := [_, .agg (rowA x)]) (m := 4) (listed2 := #[true, true, true, true, true, true, true, false, false, false, false]) (a2 := ⟨#[_, _, _, _, _, _, _, _, _, _, _, _, _, _, _, _, _, _, _, _, _, _, _, _, _, _, _, _, _, _, _, _, _, _, _, _, _, _, _, _], _⟩) (by kernel_rfl) (fun j hj => by simp at hj) (by kernel_rfl) (fun _ _ _ _ _ h => h) (Ys.cons rfl (Or.inl ⟨by rfl, fun W1 hW1 => by first | rfl | (go_simp; done) | (go_simp; with_reducible rfl)⟩) (Ys.cons rfl (Or.inl ⟨by rfl, fun W1 hW1 => by obtain ⟨q0, q1, q2, q3, q4⟩ := HC.out _ (HUB.out _ hW1); go_simp⟩) (Ys.nil))) (S0) (by rfl) (by rfl) ?_
      refine anyG_one (k := 7) (by kernel_rfl) rfl (by rfl) (fun Q2 hQ2 => ?_); go_wp2_with (go_at_call 13; refine (HRu.out _ A4 n4 c4 (slice_keep HI.out.1 (by go_grown)) (Nat.le_trans (Nat.le_of_eq HI.out.1.1.symm) (Nat.le_trans HPk.out (by decide)))).mono ?_; rintro e v7 ⟨rfl, hb7⟩; have I7 := Lib.hid ((HI.out.call (by go_grown)).call hb7)); refine hQ2 _ _ (fun _ => S0.call hb7) ?_; clear hQ2 Q2
      have S7 := S0.call hb7
      refine anyG_one (k := 8) (by kernel_rfl) rfl (by rfl) (fun Q2 hQ2 => ?_)
      have nG := new_atU (S := S7) (#[.int .i64 RR]) 3
      obtain ⟨G, hG, bG, lG⟩ := nG
      go_wp2_with fail
      refine hQ2 _ _ (fun _ => S7.alloc _) ?_
      clear hQ2 Q2
      (try simp only [hG])
      clear hG
      have SG := S7.alloc (.cells (#[.int .i64 RR]) 3)
      refine anyG_one (k := 9) (by kernel_rfl) rfl (by rfl) (fun Q2 hQ2 => ?_); go_wp2_with (refine wpList_push2 _ rfl (.tmp 16) (.tmp 24) 55 rfl w1.heap.size 3 _ 1 8 cellN Try.underlying55 info_goint (by rfl) (by decide) (fun _ => rfl) one_int (.slice A5 n5 c5) outs rfl (I7.out.2.1.alloc _) ⟨G, 0, none⟩ 1 RR rfl (blk_news (α := Int) (vs := cellN RR) bG rfl) HRk.out (by decide) (by have := I7.out.2.2.2.2; simp; omega) ?_; intro v' w8 ho8 hu8 hw8; obtain ⟨A8, n8, c8, rfl, -, -⟩ := ho8.shape (fun _ => rfl); have I8 := Lib.hid (RulIn.push (I7.out.call (by go_grown)) ho8 hu8 hw8); clear ho8 hw8); refine hQ2 _ _ (fun _ => SG.trans hu8 (fun k hk => .inl hk)) ?_; clear hQ2 Q2
      have S8 := SG.trans hu8 (fun k hk => .inl hk)
      refine anyG_takes (is := [10]) (vs := [.slice A8 n8 c8]) (m := 0) (listed2 := #[true, true, true, true, true, true, true, true, true, true, true]) (a2 := ⟨#[_, _, _, _, _, _, _, _, _, _, _, _, _, _, _, _, _, _, _, _, _, _, _, _, _, _, _, _, _, _, _, _, _, _, _, _, _, _, _, _], _⟩) (by kernel_rfl) (fun j hj => by simp at hj) (by kernel_rfl) (fun _ _ _ _ _ h => h) (Ys.cons rfl (Or.inl ⟨by rfl, fun W1 hW1 => by rfl⟩) (Ys.nil)) (S8) (by rfl) (by rfl) ?_
      refine anyG_done (by kernel_rfl) ?_ _
      obtain ⟨q0, q1, q2, q3, q4⟩ := HC.out _ (HUB.out _ S8)
      by_cases hr : 1 ≤ rm ∧ rm ≤ 64
      · have d1 : decide (1 ≤ rm) = true := decide_eq_true hr.1
        have d2 : decide (rm ≤ 64) = true := decide_eq_true hr.2
        have HR := Lib.hid hr
        clear hr
        go_wp2_with (go_at_call 62; refine (ref14_PutI A4 n4 c4 past rm x _ I8.out.1 (Nat.le_trans (Nat.le_of_eq I8.out.1.1.symm) (Nat.le_trans HPk.out (by decide))) HR.out).mono ?_; rintro e w9 ⟨A9, n9, c9, rfl, hs9, hb9, hf9⟩; have I9 := Lib.hid (I8.out.advs hs9 hb9 hf9); clear hs9 hb9 hf9)
        go_roundw
        case rel => exact ⟨k + 1, A9, n9, c9, by omega, by go_num, rfl, by rw [HN1.out.1, HN1.out.2]; exact I9.out⟩
        case measure => simp [intOf]; omega
      · have HE := Lib.hid (show hush past rm x = past by rw [HPb1.out hr]; unfold hush; rw [if_neg hr])
        have hd : decide (1 ≤ rm) = false ∨ (decide (1 ≤ rm) = true ∧ decide (rm ≤ 64) = false) := by
          simp only [decide_eq_true_eq, decide_eq_false_iff_not]; omega
        clear hr
        rcases hd with d1 | ⟨d1, d2⟩
        all_goals
          go_wp2
          go_roundw
          case rel => exact ⟨k + 1, A4, n4, c4, by omega, by go_num, rfl, by rw [HN1.out.1, HN1.out.2, HE.out]; exact I8.out⟩
          case measure => simp [intOf]; omega
    · have hE : l.take k = l := List.take_of_length_le (by have := HL.out; omega)
      rw [hE] at HI
      go_wp2
      go_ret
      exact ⟨_, _, _, rfl, HI.out.2.1.mono E1.out.size, E1.out.trans (HI.out.2.2.2.1.mono E1.out.size)⟩
end Go.Proofs.Ytjodpffdlggjgaa
/- audit.Counts and its closure: the walk. (fast region) -/
namespace Go.Proofs.Ytjodpffdlggjgaa
open Go.RowKit
set_option linter.unusedSimpArgs false
set_option linter.unusedVariables false
set_option maxHeartbeats 8000000
set_option maxRecDepth 100000
/-- How many of rs are j. -/
def cntq (rs : List Int) (j : Int) : Int := (rs.count j : Nat)
abbrev cntR (rs : List Int) : Array Value := #[.int .i64 (cntq rs 0), .int .i64 (cntq rs 1), .int .i64 (cntq rs 2), .int .i64 (cntq rs 3), .int .i64 (cntq rs 4), .int .i64 (cntq rs 5)]
theorem cntq_bd (rs : List Int) (j : Int) : 0 ≤ cntq rs j ∧ cntq rs j ≤ rs.length := by
  unfold cntq
  have := List.count_le_length (a := j) (l := rs)
  omega
theorem cntq_snoc (rs : List Int) (r j : Int) : cntq (rs ++ [r]) j = if r = j then cntq rs j + 1 else cntq rs j := by
  unfold cntq
  rw [List.count_append, List.count_singleton]
  by_cases h : r = j
  · subst h; simp
  · have : (r == j) = false := by simpa using h
    rw [this, if_neg h]; simp
theorem cnt_set (rs : List Int) (j : Nat) (hj : j < 6) : (cntR rs).setIfInBounds j (.int .i64 (cntq rs j + 1)) = cntR (rs ++ [(j : Int)]) := by
  match j, hj with
  | 0, _ => simp [cntR, cntq_snoc]
  | 1, _ => simp [cntR, cntq_snoc]
  | 2, _ => simp [cntR, cntq_snoc]
  | 3, _ => simp [cntR, cntq_snoc]
  | 4, _ => simp [cntR, cntq_snoc]
  | 5, _ => simp [cntR, cntq_snoc]
/-- What the closure has: the counts, the policy, the history in its box. -/
def CntIn (wr : World) (g pb hb : Nat) (p : Pol) (rs : List Int) (ph : Option Addr) (F : Nat → Prop) (past : List Adv) (rm : Int) : Prop :=
  Blk wr g 57 (cntR rs) ∧ Blk wr pb 23 p.row ∧ Blk wr hb 95 #[.pointer ph] ∧ HistAt wr ph F past rm ∧ g ≠ pb ∧ g ≠ hb ∧ ¬ F g ∧ ¬ F pb ∧ ¬ F hb
theorem CntIn.call {wr w' : World} {g pb hb : Nat} {p : Pol} {rs : List Int} {ph : Option Addr} {F : Nat → Prop} {past : List Adv} {rm : Int} (h : CntIn wr g pb hb p rs ph F past rm) (hbl : Below wr.heap.size wr w') : CntIn w' g pb hb p rs ph F past rm := by
  obtain ⟨h1, h2, h3, h4, h5⟩ := h
  exact ⟨h1.call hbl, h2.call hbl, h3.call hbl, h4.call hbl, h5⟩
theorem CntIn.add {wr w' : World} {g pb hb : Nat} {p : Pol} {rs : List Int} {ph : Option Addr} {F : Nat → Prop} {past : List Adv} {rm : Int} {x : Adv} {e : Ending} (h : CntIn wr g pb hb p rs ph F past rm) (ha : AddPost ph F past rm x wr e w') : e = .returned (.bool (decide (1 ≤ rm ∧ rm ≤ 64))) ∧ ∃ F', CntIn w' g pb hb p rs ph F' (hush past rm x) rm ∧ Upd F wr w' ∧ ∀ k, F' k → F k ∨ wr.heap.size ≤ k := by
  obtain ⟨h1, h2, h3, h4, h5, h6, h7, h8, h9⟩ := h
  obtain ⟨F', rfl, k1, k2, k3⟩ := ha
  have key : ∀ k, k < wr.heap.size → ¬ F k → ¬ F' k := fun k hk hn hf => (k3 k hf).elim hn (fun h => by omega)
  exact ⟨rfl, F', ⟨h1.upd k2 h7, h2.upd k2 h8, h3.upd k2 h9, k1, h5, h6, key _ h1.lt h7, key _ h2.lt h8, key _ h3.lt h9⟩, k2, k3⟩
theorem CntIn.set {wr : World} {g pb hb : Nat} {p : Pol} {rs : List Int} {ph : Option Addr} {F : Nat → Prop} {past : List Adv} {rm : Int} (h : CntIn wr g pb hb p rs ph F past rm) (j : Nat) (hj : j < 6) : CntIn (wr.setCell ⟨g, j, none⟩ (.int .i64 (cntq rs j + 1))) g pb hb p (rs ++ [(j : Int)]) ph F past rm ∧ Upd (fun k => k = g) wr (wr.setCell ⟨g, j, none⟩ (.int .i64 (cntq rs j + 1))) := by
  obtain ⟨h1, h2, h3, h4, h5, h6, h7, h8, h9⟩ := h
  have hu : Upd (fun k => k = g) wr (wr.setCell ⟨g, j, none⟩ (.int .i64 (cntq rs j + 1))) := Upd.setCell (S := fun k => k = g) (Upd.refl (fun k => k = g) wr) (p := ⟨g, j, none⟩) (.inl rfl) _
  exact ⟨⟨by rw [← cnt_set rs j hj]; exact h1.set_ j _, h2.far (p := ⟨g, j, none⟩) (Ne.symm h5) _, h3.far (p := ⟨g, j, none⟩) (Ne.symm h6) _, h4.upd hu (fun k hk e => h7 (by rw [← e]; exact hk)), h5, h6, h7, h8, h9⟩, hu⟩
def EachPost (g pb hb : Nat) (p : Pol) (rs : List Int) (ph : Option Addr) (F : Nat → Prop) (past : List Adv) (rm : Int) (x : Adv) (w : World) (e : Ending) (w' : World) : Prop := (∃ v, e = .returned v) ∧ ∃ F', CntIn w' g pb hb p (rs ++ [ruleq p past x]) ph F' (hush past rm x) rm ∧ Upd (fun k => F k ∨ k = g) w w' ∧ ∀ k, F' k → F k ∨ w.heap.size ≤ k
theorem counts_each (g pb hb : Nat) (p : Pol) (rs : List Int) (ph : Option Addr) (F : Nat → Prop) (past : List Adv) (rm : Int) (x : Adv) (w : World) (h : CntIn w g pb hb p rs ph F past rm) (hp : p.fit) (hx : x.good) (hrs : rs.length ≤ 100000) :
    Calls Try.prog 63 #[.agg (rowA x), .pointer (some ⟨g, 0, none⟩), .pointer (some ⟨pb, 0, none⟩), .pointer (some ⟨hb, 0, none⟩)] w (EachPost g pb hb p rs ph F past rm x w) := by
  have H0 := Lib.hid (h.call (show Below w.heap.size w (w.alloc (.cells (rowA x) 26)) by go_grown))
  have X0 := Lib.hid (Blk.new w 26 (rowA x))
  have HF := Lib.hid h.2.2.2.1.2
  have HGl := Lib.hid h.1.lt
  have HP := Lib.hid hp
  have HX := Lib.hid hx
  have HPk := Lib.hid h.2.2.2.1.len
  have HB := Lib.hid (fun j => cntq_bd rs j)
  have HRs := Lib.hid hrs
  have HRb := ruleq_bd p past x
  have HRu := Lib.hid (fun W A n c hW hn => audit_Rule p A n c past x W HP.out HX.out hW hn)
  have HQ := Lib.hid (show EachPost g pb hb p rs ph F past rm x = fun w e w' => (∃ v, e = .returned v) ∧ ∃ F', CntIn w' g pb hb p (rs ++ [ruleq p past x]) ph F' (hush past rm x) rm ∧ Upd (fun k => F k ∨ k = g) w w' ∧ ∀ k, F' k → F k ∨ w.heap.size ≤ k from rfl)
  generalize EachPost g pb hb p rs ph F past rm x = EP at *
  generalize ruleq p past x = RR at *
  clear h hp hx hrs
  obtain ⟨j, hj, rfl⟩ : ∃ j : Nat, j < 6 ∧ RR = j := ⟨RR.toNat, by omega, by omega⟩
  have HSet := Lib.hid (fun W (hW : CntIn W g pb hb p rs ph F past rm) => hW.set j hj)
  have HJ := Lib.hid hj
  have hji : (j : Int) < 6 := by omega
  have HCj := Lib.hid (show ∀ W : World, CntIn W g pb hb p rs ph F past rm → W.cell? ⟨g, j, none⟩ = some (.int .i64 (cntq rs j)) from fun W hW => by
    have := hW.1.cell j
    rw [this]
    match j, hj with
    | 0, _ => rfl
    | 1, _ => rfl
    | 2, _ => rfl
    | 3, _ => rfl
    | 4, _ => rfl
    | 5, _ => rfl)
  have HWr := Lib.hid (show wrap64 (cntq rs j + 1) = cntq rs j + 1 by have := HB.out j; have := HRs.out; have h := IntKind.wrap_i64 (cntq rs j + 1); first | (unfold wrap64; omega) | (rw [← h]; rw [h]; omega))
  generalize cntq rs j = CJ at *
  clear HRb
  go_enter Try.func63, Try.ntmps63
  go_upto_region 1 with (fail)
  obtain ⟨w2, hw2⟩ : ∃ w2, w2 = w.alloc (.cells (rowA x) 26) := ⟨_, rfl⟩
  have E2 := Lib.hid (show Below w.heap.size w w2 by rw [hw2]; go_grown)
  rw [← hw2] at H0 X0 ⊢
  clear hw2
  refine wp_region_any (by kernel_rfl) ?_; change wpAny _ _ _ _ _ _ _ (World.drew w2); refine any_of_anyG (late := fun j => [9].contains j) (S := fun wS => Below w2.heap.size w2 wS) _ _ _ _ ?_
  have S0 := (Below.refl w2.heap.size w2).drew
  refine anyG_takes (is := [0, 1, 3]) (vs := [_, .pointer ph, _]) (m := 7) (listed2 := #[true, true, false, true, false, false, false, false, false, false]) (a2 := ⟨#[_, _, _, _, _, _, _, _, _, _, _, _, _, _, _, _, _], _⟩) (by kernel_rfl) (fun j hj => by first | (simp at hj; done) | (simp at hj; simp; omega)) (by kernel_rfl) (fun _ _ _ _ _ h => h) (Ys.cons rfl (Or.inl ⟨by rfl, fun W1 hW1 => exec_load (ty := 23) (x := .tmp 2) rfl rfl (run_loadAt_blk _ _ _ _ _ _ ((H0.out.call hW1).2.1) Try.underlying23 rfl (by first | kernel_rfl | exact info_num _))⟩) (Ys.cons rfl (Or.inl ⟨by rfl, fun W1 hW1 => by have c := (H0.out.call hW1).2.2.1.cellv (i := 0) (v := .pointer ph) rfl; go_simp⟩) (Ys.cons rfl (Or.inl ⟨by rfl, fun W1 hW1 => exec_load (ty := 26) (x := .tmp 4) rfl rfl (run_loadAt_blk _ _ _ _ _ _ (X0.out.call hW1) Try.underlying26 rfl (by first | kernel_rfl | exact info_num _))⟩) (Ys.nil)))) (S0) (by rfl) (by rfl) ?_
  refine anyG_one (k := 2) (by kernel_rfl) rfl (by rfl) (fun Q2 hQ2 => ?_); go_wp2_with (go_at_call 60; refine (history_List ph F past rm _ (H0.out.call S0).2.2.2.1).mono ?_; rintro e v4 ⟨u4, rfl, ho4, hb4⟩; obtain ⟨A4, n4, c4, rfl, -, -⟩ := ho4.shape adv_len; have L4 := Lib.hid (ownA_is ho4); clear ho4); refine hQ2 _ _ (fun _ => S0.trans (hb4.mono S0.size)) ?_; clear hQ2 Q2
  have S4 := S0.trans (hb4.mono S0.size)
  refine anyG_one (k := 4) (by kernel_rfl) rfl (by rfl) (fun Q2 hQ2 => ?_); go_wp2_with (go_at_call 12; refine (HRu.out _ A4 n4 c4 L4.out (Nat.le_trans (Nat.le_of_eq L4.out.1.symm) (Nat.le_trans HPk.out (by decide)))).mono ?_; rintro e v5 ⟨rfl, hb5⟩; have H5 := Lib.hid (H0.out.call (S4.trans (hb5.mono S4.size))); have cS := HCj.out _ H5.out; have fS := H5.out.1.frozen j); refine hQ2 _ _ (fun _ => S4.trans (hb5.mono S4.size)) ?_; clear hQ2 Q2
  have S5 := S4.trans (hb5.mono S4.size)
  refine anyG_takes (is := [5, 6]) (vs := [.pointer (some ⟨g, j, none⟩), .int .i64 CJ]) (m := 3) (listed2 := #[true, true, true, true, true, true, true, false, false, false]) (a2 := ⟨#[_, _, _, _, _, _, _, _, _, _, _, _, _, _, _, _, _], _⟩) (by kernel_rfl) (fun j hj => by first | (simp at hj; done) | (simp at hj; simp; omega)) (by kernel_rfl) (fun _ _ _ _ _ h => h) (Ys.cons rfl (Or.inl ⟨by rfl, fun W1 hW1 => by first | (go_simp; done) | (go_simp; omega)⟩) (Ys.cons rfl (Or.inl ⟨by rfl, fun W1 hW1 => by have c := HCj.out _ (H0.out.call hW1); go_simp⟩) (Ys.nil))) (S5) (by rfl) (by rfl) ?_
  refine anyG_one (k := 7) (by kernel_rfl) rfl (by rfl) (fun Q2 hQ2 => ?_); go_wp2_with fail; refine hQ2 _ _ (fun _ => S5) ?_; clear hQ2 Q2
  refine anyG_takes (is := [8]) (vs := [.pointer (some ⟨g, j, none⟩)]) (m := 1) (listed2 := #[true, true, true, true, true, true, true, true, true, false]) (a2 := ⟨#[_, _, _, _, _, _, _, _, _, _, _, _, _, _, _, _, _], _⟩) (by kernel_rfl) (fun j hj => by first | (simp at hj; done) | (simp at hj; simp; omega)) (by kernel_rfl) (fun _ _ _ _ _ h => h) (Ys.cons rfl (Or.inl ⟨by rfl, fun W1 hW1 => by first | (go_simp; done) | (go_simp; omega)⟩) (Ys.nil)) (S5) (by rfl) (by rfl) ?_
  refine anyG_of_any _ _ _ _ (by kernel_rfl) ?_
  refine any_one (k := 9) (by kernel_rfl) rfl (by rfl) (fun Q2 hQ2 => ?_); go_wp2_with fail; (try refine hQ2 _ _ ?_); (try clear hQ2 Q2)
  refine wpAny_done (by kernel_rfl) ?_ _
  rw [HWr.out]
  obtain ⟨h6, u6⟩ := HSet.out v5 H5.out
  have H6 := Lib.hid h6
  have U6 := Lib.hid u6
  have X6 := Lib.hid ((X0.out.call S5).far (p := ⟨g, j, none⟩) (fun e => by have := HGl.out; have e2 : w.heap.size = g := e; omega) (.int .i64 (CJ + 1)))
  have S6 := Lib.hid (E2.out.trans (S5.mono E2.out.size))
  clear h6 u6 cS fS H5 HSet HCj
  generalize v5.setCell ⟨g, j, none⟩ (.int .i64 (CJ + 1)) = v6 at *
  have c0 := H6.out.2.2.1.cellv (i := 0) (v := .pointer ph) rfl
  go_wp2_with (first
    | (refine Blk.load rfl 26 (.tmp 4) rfl _ _ _ _ rfl X6.out Try.underlying26 rfl (by kernel_rfl) ?_)
    | (go_at_call 61; refine (history_Add ph F past rm x _ H6.out.2.2.2.1).mono ?_; intro e v7 hp; obtain ⟨rfl, F', hI, hU, hF'⟩ := H6.out.add hp; have H7 := Lib.hid hI; have U7 := Lib.hid hU; have F7 := Lib.hid hF'; clear hp hI hU hF'))
  first | go_ret | go_returns | go_end0 | skip
  rw [HQ.out]
  have U8 := ((Upd.of_below (S := fun k => F k ∨ k = g) S6.out).trans U6.out (fun k hk => .inl (.inr hk)))
  exact ⟨⟨_, rfl⟩, F', H7.out, U8.trans U7.out (fun k hk => .inl (.inl hk)), fun k hk => (F7.out k hk).imp id (fun h => Nat.le_trans U8.size h)⟩
end Go.Proofs.Ytjodpffdlggjgaa
/- audit.Counts: the walk. -/
namespace Go.Proofs.Ytjodpffdlggjgaa
open Go.RowKit
set_option linter.unusedSimpArgs false
set_option linter.unusedVariables false
set_option maxHeartbeats 8000000
set_option maxRecDepth 100000
abbrev z6 : Array Value := #[.int .i64 0, .int .i64 0, .int .i64 0, .int .i64 0, .int .i64 0, .int .i64 0]
/-- The closure's things, and the result's cells, in blocks of the call's own. -/
def CtsIn (w wr : World) (hb : Nat) (p : Pol) (rs : List Int) (ph : Option Addr) (past : List Adv) (rm : Int) : Prop := ∃ F, CntIn wr (w.heap.size + 2) w.heap.size hb p rs ph F past rm ∧ Blk wr (w.heap.size + 1) 57 z6 ∧ ¬ F (w.heap.size + 1) ∧ (∀ k, F k → w.heap.size ≤ k) ∧ Below w.heap.size w wr
theorem CtsIn.call {w wr w' : World} {hb : Nat} {p : Pol} {rs : List Int} {ph : Option Addr} {past : List Adv} {rm : Int} (h : CtsIn w wr hb p rs ph past rm) (hbl : Below wr.heap.size wr w') : CtsIn w w' hb p rs ph past rm := by
  obtain ⟨F, h1, h2, h3, h4, h5⟩ := h
  exact ⟨F, h1.call hbl, h2.call hbl, h3, h4, h5.trans (hbl.mono h5.size)⟩
theorem CtsIn.each {w wr : World} {hb : Nat} {p : Pol} {rs : List Int} {ph : Option Addr} {past : List Adv} {rm : Int} (h : CtsIn w wr hb p rs ph past rm) : ∃ F, CntIn wr (w.heap.size + 2) w.heap.size hb p rs ph F past rm ∧ ∀ x e w', EachPost (w.heap.size + 2) w.heap.size hb p rs ph F past rm x wr e w' → (∃ v, e = .returned v) ∧ CtsIn w w' hb p (rs ++ [ruleq p past x]) ph (hush past rm x) rm := by
  obtain ⟨F, h1, h2, h3, h4, h5⟩ := h
  refine ⟨F, h1, ?_⟩
  rintro x e w' ⟨he, F', k1, k2, k3⟩
  have hlt := h2.lt
  refine ⟨he, F', k1, h2.upd k2 (fun hs => hs.elim h3 (fun e => by omega)), fun hf => (k3 _ hf).elim h3 (fun h => by omega), fun k hk => (k3 k hk).elim (h4 k) (fun h => Nat.le_trans h5.size h), h5.trans (k2.below (fun k hk => hk.elim (h4 k) (fun e => by omega)) h5.size)⟩
theorem audit_Counts (p : Pol) (A : Option Addr) (len cap : Nat) (l : List Adv) (rm : Int) (w : World) (hp : p.fit) (hs : AdvsAre w A len cap l) (hg : ∀ x ∈ l, x.good) (hn : len ≤ 1000) (hrm : I64 rm) :
    Calls Try.prog 30 #[(.agg #[.int .i64 p.min, .int .i64 p.max, .int .i64 p.target, .int .i64 p.tol, .int .i64 p.window, .int .i64 p.hold]), .slice A len cap, .int .i64 rm] w fun e w' => e = .returned (.agg (cntR (ruls p rm [] l))) ∧ Below w.heap.size w w' := by
  have HS := Lib.hid hs
  have HL := Lib.hid hs.1
  have HG := Lib.hid hg
  have HP := Lib.hid hp
  have HR := Lib.hid hrm
  have HN := Lib.hid (fun (k : Nat) (x : Adv) (h : l[k]? = some x) => ruls_next p rm h)
  have HRl := Lib.hid (fun k => ruls_len p rm (l.take k) [])
  have hmf : ∀ (fn : Fn) (first cap : Array Value) (w : World), (Instr.makeFunc fn first cap).run Try.prog w = .ok (.func fn first cap) w := fun _ _ _ _ => rfl
  clear hs hg hp hrm
  have D0 := Lib.hid (show ∀ ph F w2, HistAt w2 ph F [] rm → (∀ k, F k → ((((w.alloc (.cells p.row 23)).alloc (.cells z6 57)).alloc (.cells z6 57))).heap.size ≤ k) → Below (((w.alloc (.cells p.row 23)).alloc (.cells z6 57)).alloc (.cells z6 57)).heap.size (((w.alloc (.cells p.row 23)).alloc (.cells z6 57)).alloc (.cells z6 57)) w2 → CtsIn w (w2.alloc (.cells #[.pointer ph] 95)) w2.heap.size p [] ph [] rm from fun ph F w2 h1 h2 h3 => by
    have b0 : Blk (((w.alloc (.cells p.row 23)).alloc (.cells z6 57)).alloc (.cells z6 57)) w.heap.size 23 p.row := ((Blk.new w _ _).alloc _).alloc _
    have b1 : Blk (((w.alloc (.cells p.row 23)).alloc (.cells z6 57)).alloc (.cells z6 57)) (w.heap.size + 1) 57 z6 := (Blk.new2 w _ _ _).alloc _
    have b2 : Blk (((w.alloc (.cells p.row 23)).alloc (.cells z6 57)).alloc (.cells z6 57)) (w.heap.size + 2) 57 (cntR []) := by
      have h := Blk.new ((w.alloc (.cells p.row 23)).alloc (.cells z6 57)) 57 z6
      rw [World.size_alloc, World.size_alloc] at h
      exact h
    have hz : (((w.alloc (.cells p.row 23)).alloc (.cells z6 57)).alloc (.cells z6 57)).heap.size = w.heap.size + 3 := by simp
    have e0 : Below w.heap.size w (((w.alloc (.cells p.row 23)).alloc (.cells z6 57)).alloc (.cells z6 57)) := by go_grown
    generalize ((w.alloc (.cells p.row 23)).alloc (.cells z6 57)).alloc (.cells z6 57) = w3 at *
    have hz2 := h3.size
    have e1 : Below w2.heap.size w2 (w2.alloc (.cells #[.pointer ph] 95)) := by go_grown
    exact ⟨F, ⟨(b2.call h3).call e1, (b0.call h3).call e1, Blk.new _ _ _, h1.call e1, by omega, by omega, fun h => by have := h2 _ h; omega, fun h => by have := h2 _ h; omega, fun h => by have := h1.2 _ h; omega⟩, (b1.call h3).call e1, fun h => by have := h2 _ h; omega, fun k hk => by have := h2 k hk; omega, (e0.trans (h3.mono (by omega))).trans (e1.mono (by omega))⟩)
  go_enter Try.func30, Try.ntmps30
  go_wp2_with (go_at_call 59; refine (history_New rm _ HR.out).mono ?_; rintro e v2 ⟨ph, FH, rfl, k1, k2, k3⟩; have F2 := Lib.hid (D0.out ph FH v2 k1 k2 k3); clear k1 k2 k3)
  obtain ⟨hb, hhb⟩ : ∃ hb, hb = v2.heap.size := ⟨_, rfl⟩
  rw [← hhb] at F2 ⊢
  obtain ⟨w3, hw3⟩ : ∃ w3, w3 = v2.alloc (.cells #[.pointer ph] 95) := ⟨_, rfl⟩
  rw [← hw3] at F2 ⊢
  clear hw3 hhb
  go_loopw [17] (fun i wr => ∃ k : Nat, k ≤ len ∧ i = .int .i64 k ∧ CtsIn w wr hb p (ruls p rm [] (l.take k)) ph (pastq rm [] (l.take k)) rm) (fun i _ => len - (intOf i).toNat)
  case atStart => exact ⟨0, Nat.zero_le _, rfl, F2.out⟩
  case round =>
    obtain ⟨k, hk, rfl, hin⟩ := hrel
    have HI := Lib.hid hin
    have hbw : Below w.heap.size w wr := by obtain ⟨F, -, -, -, -, h⟩ := hin; exact h
    clear hin
    by_cases hlt : k < len
    · obtain ⟨b, off, x, rfl, hx, hbb, t0, t1, t2, t3, t4⟩ := HS.out.at_ hlt
      have kt0 := (hbw.cell (p := ⟨b, off + k * 5, none⟩) hbb).trans t0
      have kt1 := (hbw.cell (p := ⟨b, off + k * 5 + 1, none⟩) hbb).trans t1
      have kt2 := (hbw.cell (p := ⟨b, off + k * 5 + 2, none⟩) hbb).trans t2
      have kt3 := (hbw.cell (p := ⟨b, off + k * 5 + 3, none⟩) hbb).trans t3
      have kt4 := (hbw.cell (p := ⟨b, off + k * 5 + 4, none⟩) hbb).trans t4
      have hki : (k : Int) < (len : Int) := by omega
      have HN1 := Lib.hid (HN.out k x hx)
      have HX := Lib.hid (HG.out x (List.mem_of_getElem? hx))
      have HRk := Lib.hid (show (ruls p rm [] (l.take k)).length ≤ 100000 by rw [HRl.out k, List.length_take]; omega)
      have I1 := Lib.hid (HI.out.call (w' := wr.alloc (.cells (rowA x) 26)) ((Below.refl _ wr).alloc (Nat.le_refl _) _))
      clear hx hbb t0 t1 t2 t3 t4 hbw HI
      obtain ⟨F, hC, hE⟩ := I1.out.each
      have HC := Lib.hid hC
      have HE := Lib.hid hE
      clear hC hE
      go_wp2_with (go_at_call 63; refine (counts_each _ _ hb p _ ph F _ rm x _ HC.out HP.out HX.out HRk.out).mono ?_; intro e w5 hp; obtain ⟨⟨v5, rfl⟩, hI⟩ := HE.out x _ _ hp; have I5 := Lib.hid hI; clear hp hI)
      go_roundw
      case rel => exact ⟨k + 1, by omega, by go_num, by rw [HN1.out.1, HN1.out.2]; exact I5.out⟩
      case measure => simp [intOf]; omega
    · have hE : l.take k = l := List.take_of_length_le (by have := HL.out; omega)
      rw [hE] at HI
      obtain ⟨F, hC, hB, -, -, hbl⟩ := HI.out
      have BC := Lib.hid hC.1
      have BR := Lib.hid hB
      have BE := Lib.hid hbl
      clear hC hB hbl hbw
      go_wp2_with (first
        | (refine Blk.load rfl 57 (.tmp 7) rfl _ _ _ _ rfl BC.out Try.underlying57 rfl (by kernel_rfl) ?_)
        | (refine wpList_store_row rfl 57 (.tmp 6) (.tmp 25) rfl (w.heap.size + 1) _ _ _ rfl rfl BR.out (by rfl) (by kernel_rfl) (by simp [Value.oneCell']) ?_; intro w9 hb9 hg9))
      refine bodyPost_ret (results_row rfl _ _ (w.heap.size + 1) _ _ _ rfl hb9 Try.underlying57 rfl (by kernel_rfl)) rfl ⟨rfl, BE.out.trans (Only.below hg9 (by omega) BE.out.size)⟩
end Go.Proofs.Ytjodpffdlggjgaa
/- Chapter 48's laws: AuditChecks. (fast region) -/
namespace Go.Proofs.Ytjodpffdlggjgaa
open Go.RowKit
set_option linter.unusedSimpArgs false
set_option linter.unusedVariables false
set_option maxHeartbeats 8000000
set_option maxRecDepth 100000
theorem first_snoc {rs : List Int} {f w r : Int} (h : IsFirst rs f w) : (r ≠ 0 → f < 0 → IsFirst (rs ++ [r]) (rs.length : Nat) r) ∧ ((r = 0 ∨ ¬ f < 0) → IsFirst (rs ++ [r]) f w) := by
  refine ⟨fun hr hf => ?_, fun hr => ?_⟩
  · rcases h with ⟨h1, h2, hz⟩ | ⟨k, rfl, _⟩
    · refine .inr ⟨rs.length, rfl, ?_, hr, fun j hj => ?_⟩
      · rw [List.getElem?_append_right (Nat.le_refl _)]; simp
      · rw [List.getElem?_append_left hj, List.getElem?_eq_getElem hj, hz _ (List.getElem_mem hj)]
    · omega
  · rcases h with ⟨rfl, rfl, hz⟩ | ⟨k, rfl, h2, h3, h4⟩
    · refine .inl ⟨rfl, rfl, fun x hx => ?_⟩
      rcases List.mem_append.1 hx with hx | hx
      · exact hz x hx
      · rcases hr with hr | hr
        · rw [List.mem_singleton.1 hx]; exact hr
        · omega
    · have hlt := (List.getElem?_eq_some_iff.1 h2).1
      refine .inr ⟨k, rfl, by rw [List.getElem?_append_left hlt]; exact h2, h3, fun j hj => by rw [List.getElem?_append_left (by omega)]; exact h4 j hj⟩
theorem ruls_bd (p : Pol) (rm : Int) (l : List Adv) : ∀ past, ∀ r ∈ ruls p rm past l, 0 ≤ r ∧ r ≤ 5 := by
  induction l with
  | nil => intro past r hr; cases hr
  | cons a l ih =>
    intro past r hr
    rcases List.mem_cons.1 hr with hr | hr
    · rw [hr]; exact ruleq_bd p past a
    · exact ih _ r hr
theorem eq_cnt (rs : List Int) :
    (∀ (W : World) (op : BinOp) (o1 o2 : Operand), (eqGuard op 57 o1 o2 (.agg (cntR rs)) (.agg (cntR rs))).run Try.prog W = .ok () W) ∧
    (∀ W : World, (binOp .eql 57 (.agg (cntR rs)) (.agg (cntR rs))).run Try.prog W = .ok (.bool true) W) ∧
    (∀ W : World, (binOp .neq 57 (.agg (cntR rs)) (.agg (cntR rs))).run Try.prog W = .ok (.bool (!true)) W) :=
  eq_arr_ints (t := 57) (e := 3) (n := 6) (q := .i64) .i64 Try.underlying57 (by kernel_rfl) (by kernel_rfl) (by kernel_rfl) (by kernel_rfl) (by kernel_rfl) [cntq rs 0, cntq rs 1, cntq rs 2, cntq rs 3, cntq rs 4, cntq rs 5] [cntq rs 0, cntq rs 1, cntq rs 2, cntq rs 3, cntq rs 4, cntq rs 5] rfl rfl _ _ rfl rfl true (by simp [List.range, List.range.loop])
theorem cnt_store {W : World} {g : Nat} {rs : List Int} (h : Blk W g 57 (cntR rs)) (j : Nat) (hj : j < 6) : W.cell? ⟨g, j, none⟩ = some (.int .i64 (cntq rs j)) ∧ Blk (W.setCell ⟨g, j, none⟩ (.int .i64 (cntq rs j + 1))) g 57 (cntR (rs ++ [(j : Int)])) := by
  refine ⟨?_, by rw [← cnt_set rs j hj]; exact h.set_ j _⟩
  rw [h.cell j]
  match j, hj with
  | 0, _ => rfl
  | 1, _ => rfl
  | 2, _ => rfl
  | 3, _ => rfl
  | 4, _ => rfl
  | 5, _ => rfl
theorem walk_AuditChecks (a0 a1 a2 a3 a4 a5 : Int) (A : Option Addr) (len cap : Nat) (l : List Adv) (rm : Int) (w : World) (h0 : I64 a0) (h1 : I64 a1) (h2 : I64 a2) (h3 : I64 a3) (h4 : I64 a4) (h5 : I64 a5) (hs : AdvsAre w A len cap l) (hg : ∀ x ∈ l, x.good) (h6 : I64 rm) :
    Calls Try.prog 6 #[.agg #[.int .i64 a0, .int .i64 a1, .int .i64 a2, .int .i64 a3, .int .i64 a4, .int .i64 a5], .slice A len cap, .int .i64 rm] w fun e w' => e = .returned (.bool true) ∧ Below w.heap.size w w' := by
  obtain ⟨p, rfl, rfl, rfl, rfl, rfl, rfl⟩ : ∃ p : Pol, a0 = p.min ∧ a1 = p.max ∧ a2 = p.target ∧ a3 = p.tol ∧ a4 = p.window ∧ a5 = p.hold := ⟨⟨a0, a1, a2, a3, a4, a5⟩, rfl, rfl, rfl, rfl, rfl, rfl⟩
  have HP := Lib.hid (show p.fit from ⟨h0, h1, h2, h3, h4, h5⟩)
  have HS := Lib.hid hs
  have HG := Lib.hid hg
  have HR := Lib.hid h6
  have hle : len ≤ cap := hs.2.1
  have hm : cap ≤ 9223372036854775807 := by have := hs.2.2.1; unfold maxLen at this; omega
  clear hs hg h0 h1 h2 h3 h4 h5 h6
  have B0 := Lib.hid (Blk.new w 23 p.row)
  have E0 := Lib.hid (show Below w.heap.size w (w.alloc (.cells p.row 23)) by go_grown)
  by_cases hl : 60 < len
  · go_enter Try.func6, Try.ntmps6
    go_wp2_with (go_at_call 11; refine (awake48 _).mono ?_; rintro e v1 ⟨rfl, hb1⟩; have E1 := Lib.hid (E0.out.trans (hb1.mono E0.out.size)); clear hb1)
    all_goals first | (exfalso; omega) | skip
    go_ret
    exact ⟨rfl, E1.out⟩
  have HCh := Lib.hid (fun W hW => audit_Check p A len cap l rm W HP.out hW HG.out (by omega) HR.out)
  have HRu := Lib.hid (fun W hW => ref48_Rules p A len cap l rm W HP.out hW HG.out (by omega))
  have HCo := Lib.hid (fun W hW => audit_Counts p A len cap l rm W HP.out hW HG.out (by omega) HR.out)
  have HRl := Lib.hid (ruls_len p rm l [])
  have HRb := Lib.hid (ruls_bd p rm l [])
  have HLl := Lib.hid HS.out.1
  unfold ChkPost at HCh
  unfold RulPost at HRu
  generalize ruls p rm [] l = rs at *
  go_enter Try.func6, Try.ntmps6
  go_wp2_with (first
    | (go_at_call 11; refine (awake48 _).mono ?_; rintro e v1 ⟨rfl, hb1⟩; have E1 := Lib.hid (E0.out.trans (hb1.mono E0.out.size)); have B1 := Lib.hid (B0.out.call hb1); clear hb1)
    | (refine Blk.load rfl 23 (.tmp 3) rfl _ _ _ _ rfl B2.out Try.underlying23 rfl (by kernel_rfl) ?_)
    | (refine Blk.load rfl 23 (.tmp 3) rfl _ _ _ _ rfl B1.out Try.underlying23 rfl (by kernel_rfl) ?_)
    | (go_at_call 28; refine (HCh.out _ (slice_keep HS.out E1.out)).mono ?_; rintro e v2 ⟨i0, r0, rfl, hf2, hb2⟩; have E2 := Lib.hid (E1.out.trans (hb2.mono E1.out.size)); have B2 := Lib.hid (B1.out.call hb2); have F2 := Lib.hid hf2; clear hf2 hb2)
    | (go_at_call 29; refine (HRu.out _ (slice_keep HS.out E2.out)).mono ?_; rintro e v3 ⟨A3, n3, c3, rfl, ho3, hb3⟩; have E3 := Lib.hid (E2.out.trans (hb3.mono E2.out.size)); have B3 := Lib.hid (B2.out.call hb3); have O3 := Lib.hid (show IntsAre v3 A3 n3 c3 rs from by obtain ⟨A', n', c', he, _, hs⟩ := ho3.shape (fun _ => rfl); cases he; exact hs); clear ho3 hb3))
  all_goals first | (exfalso; omega) | skip
  have HN3 := Lib.hid O3.out.1
  have hn3 : n3 ≤ 60 := by rw [← HN3.out, HRl.out, HLl.out]; omega
  have C3 := Lib.hid (Blk.new v3 57 (cntR []))
  have E4 := Lib.hid (E3.out.alloc E3.out.size (.cells (cntR []) 57))
  have O4 := Lib.hid (slice_keep O3.out (show Below v3.heap.size v3 (v3.alloc (.cells (cntR []) 57)) by go_grown))
  have B4 := Lib.hid (B3.out.alloc (.cells (cntR []) 57))
  have HGv := Lib.hid (show w.heap.size < v3.heap.size from B3.out.lt)
  have h3s := E3.out.size
  obtain ⟨g, hgv⟩ : ∃ g, g = v3.heap.size := ⟨_, rfl⟩
  obtain ⟨v4, hv4⟩ : ∃ v4, v4 = v3.alloc (.cells (cntR []) 57) := ⟨_, rfl⟩
  rw [← hv4] at C3 E4 O4 B4
  rw [← hgv] at C3 HGv h3s
  have HOb := Lib.hid (show ∀ a, A3 = some a → 0 < n3 → a.block < g from fun a ha hn => by rw [hgv]; exact (O3.out.2.2.2.2 a ha).2 hn |>.1)
  rw [show v3.alloc (.cells #[.int .i64 0, .int .i64 0, .int .i64 0, .int .i64 0, .int .i64 0, .int .i64 0] 57) = v4 from hv4.symm, ← hgv]
  clear hv4 hgv
  go_loopw [10, 11, 33] (fun fv wv i wr => ∃ (k : Nat) (f0 w0 : Int), k ≤ n3 ∧ i = .int .i64 k ∧ fv = .int .i64 f0 ∧ wv = .int .i64 w0 ∧ IsFirst (rs.take k) f0 w0 ∧ Blk wr g 57 (cntR (rs.take k)) ∧ Below g v4 wr ∧ v4.heap.size ≤ wr.heap.size) (fun _ _ i _ => n3 - (intOf i).toNat)
  case atStart => exact ⟨0, -1, 0, Nat.zero_le _, rfl, rfl, rfl, .inl ⟨rfl, rfl, fun x hx => by cases hx⟩, C3.out, Below.refl _ _, Nat.le_refl _⟩
  case round =>
    obtain ⟨k, f0, w0, hk, rfl, rfl, rfl, hf, hc, hb, hz⟩ := hrel
    have HF := Lib.hid hf
    have HC := Lib.hid hc
    have HB := Lib.hid hb
    clear hf
    by_cases hlt : k < n3
    · obtain ⟨b, off, r, rfl, hx, hbb, t0⟩ := IntsAre.at_ O4.out hlt
      have hbg : b < g := HOb.out _ rfl (by omega)
      have kt0 := (hb.cell (p := ⟨b, off + k, none⟩) hbg).trans t0
      have hrb := HRb.out r (List.mem_of_getElem? hx)
      obtain ⟨j, hj, rfl⟩ : ∃ j : Nat, j < 6 ∧ r = j := ⟨r.toNat, by omega, by omega⟩
      obtain ⟨cj, hst⟩ := cnt_store hc j hj
      have fj := hc.frozen j
      have hki : (k : Int) < (n3 : Int) := by omega
      have hji : (j : Int) < 6 := by omega
      have HT := Lib.hid (take_snoc2 hx)
      have HSt := Lib.hid hst
      have HFs := Lib.hid (first_snoc (r := (j : Int)) HF.out)
      have HLk := Lib.hid (show (rs.take k).length = k by rw [List.length_take, HN3.out]; omega)
      have hwr : wrap64 (cntq (rs.take k) j + 1) = cntq (rs.take k) j + 1 := wrap64_id (by have := cntq_bd (rs.take k) j; rw [HLk.out] at this; unfold I64; omega)
      have HB2 := Lib.hid (show Below g v4 (wr.setCell ⟨g, j, none⟩ (.int .i64 (cntq (rs.take k) j + 1))) from hb.setCell (p := ⟨g, j, none⟩) (Nat.le_refl _) _)
      clear hx t0 hb hst hc
      generalize cntq (rs.take k) j = CJ at *
      have HZ2 := Lib.hid (show v4.heap.size ≤ (wr.setCell ⟨g, j, none⟩ (.int .i64 (CJ + 1))).heap.size from Nat.le_trans hz (by simp [World.setCell]))
      have HWr := Lib.hid hwr
      by_cases hj0 : j = 0
      · have HF2 := Lib.hid (HFs.out.2 (.inl (by rw [hj0]; rfl)))
        have d1 : ((j : Int) != 0) = false := by rw [hj0]; rfl
        clear hwr hj0
        go_wp2
        go_roundw
        case rel => rw [HWr.out]; exact ⟨k + 1, f0, w0, by omega, by go_num, rfl, rfl, by rw [HT.out]; exact HF2.out, by rw [HT.out]; exact HSt.out, HB2.out, HZ2.out⟩
        case measure => simp [intOf]; omega
      · have d1 : ((j : Int) != 0) = true := by simp; omega
        by_cases hf0 : f0 < 0
        · have HF2 := Lib.hid (HFs.out.1 (by omega) hf0)
          have d2 : decide (f0 < 0) = true := decide_eq_true hf0
          rw [HLk.out] at HF2
          clear hwr hj0
          go_wp2
          go_roundw
          case rel => rw [HWr.out]; exact ⟨k + 1, k, j, by omega, by go_num, rfl, rfl, by rw [HT.out]; exact HF2.out, by rw [HT.out]; exact HSt.out, HB2.out, HZ2.out⟩
          case measure => simp [intOf]; omega
        · have HF2 := Lib.hid (HFs.out.2 (.inr hf0))
          have d2 : decide (f0 < 0) = false := decide_eq_false hf0
          clear hwr hj0
          go_wp2
          go_roundw
          case rel => rw [HWr.out]; exact ⟨k + 1, f0, w0, by omega, by go_num, rfl, rfl, by rw [HT.out]; exact HF2.out, by rw [HT.out]; exact HSt.out, HB2.out, HZ2.out⟩
          case measure => simp [intOf]; omega
    · have hE : rs.take k = rs := List.take_of_length_le (by rw [HN3.out]; omega)
      rw [hE] at HF HC
      obtain ⟨rfl, rfl⟩ := F2.out.same HF.out
      have E5 := Lib.hid (E4.out.trans (hb.mono (Nat.le_of_lt HGv.out)))
      have B5 := Lib.hid (B4.out.below hb HGv.out)
      obtain ⟨q1, q2, q3⟩ := eq_cnt rs
      clear q3
      have d1 : (i0 == i0) = true := by simp
      have d2 : (r0 == r0) = true := by simp
      go_upto_region 16 with (fail)
      refine wp_region_any (by kernel_rfl) ?_; change wpAny _ _ _ _ _ _ _ (World.drew wr); refine any_of_anyG (late := fun _ => false) (S := fun wS => Below wr.heap.size wr wS) _ _ _ _ ?_
      have S0 := (Below.refl wr.heap.size wr).drew
      refine anyG_takes (is := [0, 1]) (vs := [_, _]) (m := 15) (listed2 := #[true, true, false, false, false, false, false, false, false, false, false, false, false, false, false, false, false]) (a2 := ⟨#[_, _, _, _, _, _, _, _, _, _, _, _, _, _, _, _, _, _, _, _, _, _, _, _, _, _, _, _, _, _, _, _, _, _, _, _, _, _, _, _, _, _, _, _, _, _, _, _, _, _, _, _, _, _, _, _, _, _, _, _, _, _, _, _, _, _, _, _], _⟩) (by kernel_rfl) (fun j hj => by simp at hj) (by kernel_rfl) (fun _ _ _ _ _ h => h) (Ys.cons rfl (Or.inl ⟨by rfl, fun W1 hW1 => by first | rfl | (go_simp; done) | (go_simp; with_reducible rfl)⟩) (Ys.cons rfl (Or.inl ⟨by rfl, fun W1 hW1 => by first | rfl | (go_simp; done) | (go_simp; with_reducible rfl)⟩) (Ys.nil))) (S0) (by rfl) (by rfl) ?_
      refine anyG_one (k := 2) (by kernel_rfl) rfl (by rfl) (fun Q2 hQ2 => ?_); go_wp2_with fail; refine hQ2 _ _ (fun _ => S0) ?_; clear hQ2 Q2
      refine anyG_takes (is := [3, 4, 5]) (vs := [.bool true, _, _]) (m := 11) (listed2 := #[true, true, true, true, true, true, false, false, false, false, false, false, false, false, false, false, false]) (a2 := ⟨#[_, _, _, _, _, _, _, _, _, _, _, _, _, _, _, _, _, _, _, _, _, _, _, _, _, _, _, _, _, _, _, _, _, _, _, _, _, _, _, _, _, _, _, _, _, _, _, _, _, _, _, _, _, _, _, _, _, _, _, _, _, _, _, _, _, _, _, _], _⟩) (by kernel_rfl) (fun j hj => by simp at hj) (by kernel_rfl) (fun _ _ _ _ _ h => h) (Ys.cons rfl (Or.inl ⟨by rfl, fun W1 hW1 => by first | rfl | (go_simp; done)⟩) (Ys.cons rfl (Or.inl ⟨by rfl, fun W1 hW1 => by first | rfl | (go_simp; done) | (go_simp; with_reducible rfl)⟩) (Ys.cons rfl (Or.inl ⟨by rfl, fun W1 hW1 => by first | rfl | (go_simp; done) | (go_simp; with_reducible rfl)⟩) (Ys.nil)))) (S0) (by rfl) (by rfl) ?_
      refine anyG_one (k := 6) (by kernel_rfl) rfl (by rfl) (fun Q2 hQ2 => ?_); go_wp2_with fail; refine hQ2 _ _ (fun _ => S0) ?_; clear hQ2 Q2
      refine anyG_takes (is := [7, 8, 9, 10, 11]) (vs := [.bool true, .bool true, _, _, _]) (m := 5) (listed2 := #[true, true, true, true, true, true, true, true, true, true, true, true, false, false, false, false, false]) (a2 := ⟨#[_, _, _, _, _, _, _, _, _, _, _, _, _, _, _, _, _, _, _, _, _, _, _, _, _, _, _, _, _, _, _, _, _, _, _, _, _, _, _, _, _, _, _, _, _, _, _, _, _, _, _, _, _, _, _, _, _, _, _, _, _, _, _, _, _, _, _, _], _⟩) (by kernel_rfl) (fun j hj => by simp at hj) (by kernel_rfl) (fun _ _ _ _ _ h => h) (Ys.cons rfl (Or.inl ⟨by rfl, fun W1 hW1 => by first | rfl | (go_simp; done)⟩) (Ys.cons rfl (Or.inl ⟨by rfl, fun W1 hW1 => by first | rfl | (go_simp; done)⟩) (Ys.cons rfl (Or.inl ⟨by rfl, fun W1 hW1 => exec_load (ty := 23) (x := .tmp 3) rfl rfl (run_loadAt_blk _ _ _ _ _ _ (B5.out.call hW1) Try.underlying23 rfl (by first | kernel_rfl | exact info_num _))⟩) (Ys.cons rfl (Or.inl ⟨by rfl, fun W1 hW1 => by first | rfl | (go_simp; done) | (go_simp; with_reducible rfl)⟩) (Ys.cons rfl (Or.inl ⟨by rfl, fun W1 hW1 => by first | rfl | (go_simp; done) | (go_simp; with_reducible rfl)⟩) (Ys.nil)))))) (S0) (by rfl) (by rfl) ?_
      refine anyG_takes (is := [13]) (vs := [_]) (m := 4) (listed2 := #[true, true, true, true, true, true, true, true, true, true, true, true, false, true, false, false, false]) (a2 := ⟨#[_, _, _, _, _, _, _, _, _, _, _, _, _, _, _, _, _, _, _, _, _, _, _, _, _, _, _, _, _, _, _, _, _, _, _, _, _, _, _, _, _, _, _, _, _, _, _, _, _, _, _, _, _, _, _, _, _, _, _, _, _, _, _, _, _, _, _, _], _⟩) (by kernel_rfl) (fun j hj => by simp at hj) (by kernel_rfl) (fun _ _ _ _ _ h => h) (Ys.cons rfl (Or.inl ⟨by rfl, fun W1 hW1 => exec_load (ty := 57) (x := .tmp 12) rfl rfl (run_loadAt_blk _ _ _ _ _ _ (HC.out.call hW1) Try.underlying57 rfl (by first | kernel_rfl | exact info_num _))⟩) (Ys.nil)) (S0) (by rfl) (by rfl) ?_
      refine anyG_one (k := 12) (by kernel_rfl) rfl (by rfl) (fun Q2 hQ2 => ?_); go_wp2_with (go_at_call 30; refine (HCo.out _ (slice_keep HS.out (E5.out.trans (S0.mono E5.out.size)))).mono ?_; rintro e v9 ⟨rfl, hb9⟩); refine hQ2 _ _ (fun _ => S0.trans (hb9.mono S0.size)) ?_; clear hQ2 Q2
      have S9 := S0.trans (hb9.mono S0.size)
      refine anyG_one (k := 14) (by kernel_rfl) rfl (by rfl) (fun Q2 hQ2 => ?_); go_wp2_with fail; refine hQ2 _ _ (fun _ => S9) ?_; clear hQ2 Q2
      refine anyG_takes (is := [15, 16]) (vs := [_, .bool true]) (m := 0) (listed2 := #[true, true, true, true, true, true, true, true, true, true, true, true, true, true, true, true, true]) (a2 := ⟨#[_, _, _, _, _, _, _, _, _, _, _, _, _, _, _, _, _, _, _, _, _, _, _, _, _, _, _, _, _, _, _, _, _, _, _, _, _, _, _, _, _, _, _, _, _, _, _, _, _, _, _, _, _, _, _, _, _, _, _, _, _, _, _, _, _, _, _, _], _⟩) (by kernel_rfl) (fun j hj => by simp at hj) (by kernel_rfl) (fun _ _ _ _ _ h => h) (Ys.cons rfl (Or.inl ⟨by rfl, fun W1 hW1 => by first | rfl | (go_simp; done) | (go_simp; with_reducible rfl)⟩) (Ys.cons rfl (Or.inl ⟨by rfl, fun W1 hW1 => by first | rfl | (go_simp; done)⟩) (Ys.nil))) (S9) (by rfl) (by rfl) ?_
      refine anyG_done (by kernel_rfl) ?_ _
      go_wp2
      go_ret
      exact ⟨rfl, E5.out.trans (S9.mono E5.out.size)⟩
end Go.Proofs.Ytjodpffdlggjgaa
