/- Several texts in one. -/
import Derived.Test.YtjodpffdlggjgaaGreatKTuneCheapest3
import Derived.Test.YtjodpffdlggjgaaGreatKTuneCheapest2
import Derived.Test.YtjodpffdlggjgaaGreatKTuneCheapest1
import Derived.Test.YtjodpffdlggjgaaGreatKeep
import Derived.Test.YtjodpffdlggjgaaGreatCat
import Derived.Test.YtjodpffdlggjgaaGreatRegT
/- decide.Of and the reference's. -/
namespace Go.Proofs.YtjodpffdlggjgaaGreat
open Go.RowKit
set_option linter.unusedSimpArgs false
set_option linter.unusedVariables false
set_option maxHeartbeats 8000000
set_option maxRecDepth 100000
/-- What is decided, where the policy may be and there are samples. -/
def decq (p : Pol) (l : List Smp) (past : List Adv) : Adv :=
  let tick := latestq l
  let load := meanq (valq (cutq l (fromq tick p.window) tick))
  let now := nowq p past
  let op := openq p load now
  let want := boundq p op
  let th := boundq p (steadyq p tick want past).1
  ⟨tick, load, want, th, whyq p (steadyq p tick want past).2 op now th⟩
def zAdv : Adv := ⟨0, 0, 0, 0, 0⟩
def ofq (p : Pol) (l : List Smp) (past : List Adv) : Adv := if ¬ p.okP then zAdv else if l.length = 0 then zAdv else decq p l past
def ofe (p : Pol) (l : List Smp) : Int := if ¬ p.okP then 7 else if l.length = 0 then 5 else 0
theorem statq_mean (l : List Smp) : (statq l).mean = meanq (valq l) := by
  unfold statq
  split
  · rename_i h
    rw [List.eq_nil_of_length_eq_zero h]; rfl
  · rfl
theorem latestq_I64 {l : List Smp} (hg : ∀ x ∈ l, x.good) : I64 (latestq l) := by
  unfold latestq
  cases l with
  | nil => unfold maxq I64; simp
  | cons a l =>
    show I64 ((l.map Smp.tick).foldl max a.tick)
    have key : ∀ (l : List Smp), (∀ x ∈ l, x.good) → ∀ m, I64 m → I64 ((l.map Smp.tick).foldl max m) := by
      intro l
      induction l with
      | nil => intro _ m hm; exact hm
      | cons x l ih =>
        intro hx m hm
        refine ih (fun y hy => hx y (by simp [hy])) _ ?_
        have := (hx x (by simp)).1
        unfold I64 at *
        omega
    exact key l (fun x hx => hg x (by simp [hx])) _ (hg a (by simp)).1
theorem boundq_I64 (p : Pol) (n : Int) (hp : p.fit) (hn : I64 n) : I64 (boundq p n) := by
  unfold boundq clampq
  have h1 := hp.1
  have h2 := hp.2.1
  unfold I64 at *
  split
  · split
    · omega
    · split <;> omega
  · omega
theorem ofq_nil {p : Pol} {l : List Smp} {past : List Adv} (hk : p.okP) (h : l.length = 0) : ofq p l past = zAdv ∧ ofe p l = 5 := by
  unfold ofq ofe
  exact ⟨by rw [if_neg (not_not_intro hk), if_pos h], by rw [if_neg (not_not_intro hk), if_pos h]⟩
theorem ofq_ok {p : Pol} {l : List Smp} {past : List Adv} (hk : p.okP) (h : l.length ≠ 0) : ofq p l past = decq p l past ∧ ofe p l = 0 := by
  unfold ofq ofe
  exact ⟨by rw [if_neg (not_not_intro hk), if_neg h], by rw [if_neg (not_not_intro hk), if_neg h]⟩
theorem ofq_no {p : Pol} {l : List Smp} {past : List Adv} (hk : ¬ p.okP) : ofq p l past = zAdv ∧ ofe p l = 7 := by
  unfold ofq ofe
  exact ⟨if_pos hk, if_pos hk⟩
theorem raw_open2 (p : Pol) (load now : Int) : rawq p load now = boundq p (openq p load now) := by
  unfold rawq openq; split <;> rfl
abbrev z28 : Array Value := #[.int .i64 0, .int .i64 0, .int .i64 0, .int .i64 0, .int .i64 0]
def DI (w wr : World) (p : Pol) : Prop := Blk wr w.heap.size 23 p.row ∧ Blk wr (w.heap.size + 1) 68 z28 ∧ Below w.heap.size w wr
theorem DI.call {w wr w' : World} {p : Pol} (h : DI w wr p) (hb : Below wr.heap.size wr w') : DI w w' p := ⟨h.1.call hb, h.2.1.call hb, h.2.2.trans (hb.mono h.2.2.size)⟩
theorem DI.start (w : World) (p : Pol) : DI w ((w.alloc (.cells p.row 23)).alloc (.cells z28 68)) p :=
  ⟨(Blk.new w _ _).alloc _, Blk.new2 w _ _ _, by go_grown⟩
end Go.Proofs.YtjodpffdlggjgaaGreat
/- Decisions made sample by sample: what they are; what the call keeps. -/
namespace Go.Proofs.YtjodpffdlggjgaaGreat
open Go.RowKit
set_option linter.unusedSimpArgs false
set_option linter.unusedVariables false
structure Fst where
  smps : List Smp
  past : List Adv
  out : List Adv
def fstep (p : Pol) (sm rm : Int) (st : Fst) (x : Smp) : Fst :=
  if errr sm x = 0 then
    if ofe p (putr st.smps sm x) = 0 then ⟨putr st.smps sm x, hush st.past rm (ofq p (putr st.smps sm x) st.past), if 1 ≤ rm ∧ rm ≤ 64 then st.out ++ [ofq p (putr st.smps sm x) st.past] else st.out⟩
    else ⟨putr st.smps sm x, st.past, st.out⟩
  else st
def folq (p : Pol) (sm rm : Int) (l : List Smp) : Fst := l.foldl (fstep p sm rm) ⟨[], [], []⟩
theorem folq_next (p : Pol) (sm rm : Int) {l : List Smp} {k : Nat} {x : Smp} (h : l[k]? = some x) : folq p sm rm (l.take (k + 1)) = fstep p sm rm (folq p sm rm (l.take k)) x := by
  unfold folq; rw [take_snoc2 h, List.foldl_append]; rfl
theorem fstep_no {p : Pol} {sm rm : Int} {st : Fst} {x : Smp} (h : errr sm x ≠ 0) : fstep p sm rm st x = st := if_neg h
theorem putr_no {l : List Smp} {sm : Int} {x : Smp} (h : errr sm x ≠ 0) : putr l sm x = l := by
  unfold putr
  split
  · rename_i hg
    unfold errr at h
    unfold putv
    split
    · rename_i h0
      rw [if_pos h0, if_pos hg] at h
      exact absurd rfl h
    · rfl
  · rfl
theorem len_putr (l : List Smp) (sm : Int) (x : Smp) : (putr l sm x).length ≤ l.length + 1 := by
  unfold putr putv putq
  split
  · split
    · split
      · rw [List.length_drop]; have := len_putL l x; omega
      · exact len_putL l x
    · omega
  · omega
theorem good_putr {l : List Smp} (h : ∀ y ∈ l, y.good) {x : Smp} (hx : x.good) (sm : Int) : ∀ y ∈ putr l sm x, y.good := by
  unfold putr
  split
  · exact good_putv h hx _
  · exact h
theorem fstep_smps (p : Pol) (sm rm : Int) (st : Fst) (x : Smp) : (fstep p sm rm st x).smps = putr st.smps sm x := by
  unfold fstep
  split
  · split <;> rfl
  · rename_i h; exact (putr_no h).symm
/-- What holds of all states along the way. -/
theorem folq_all (P : Nat → Fst → Prop) (p : Pol) (sm rm : Int) (l : List Smp) (h0 : P 0 ⟨[], [], []⟩) (hs : ∀ n st x, x ∈ l → P n st → P (n + 1) (fstep p sm rm st x)) : ∀ k, k ≤ l.length → P k (folq p sm rm (l.take k)) := by
  intro k
  induction k with
  | zero => intro _; exact h0
  | succ k ih =>
    intro hk
    have hx : l[k]? = some l[k] := List.getElem?_eq_getElem (by omega)
    rw [folq_next p sm rm hx]
    exact hs k _ _ (List.getElem_mem _) (ih (by omega))
theorem folq_len (p : Pol) (sm rm : Int) (l : List Smp) (k : Nat) (hk : k ≤ l.length) : (folq p sm rm (l.take k)).smps.length ≤ k ∧ (folq p sm rm (l.take k)).out.length ≤ k := by
  refine folq_all (fun n st => st.smps.length ≤ n ∧ st.out.length ≤ n) p sm rm l ⟨Nat.le_refl _, Nat.le_refl _⟩ (fun n st x _ h => ⟨?_, ?_⟩) k hk
  · rw [fstep_smps]; have := len_putr st.smps sm x; omega
  · unfold fstep
    split
    · split
      · dsimp only
        split
        · rw [List.length_append]; simp; omega
        · omega
      · dsimp only; omega
    · omega
theorem folq_good (p : Pol) (sm rm : Int) (l : List Smp) (hg : ∀ x ∈ l, x.good) (k : Nat) (hk : k ≤ l.length) : ∀ x ∈ (folq p sm rm (l.take k)).smps, x.good :=
  folq_all (fun n st => ∀ x ∈ st.smps, x.good) p sm rm l (fun x hx => by cases hx) (fun n st x hx h => by rw [fstep_smps]; exact good_putr h (hg x hx) sm) k hk
theorem folq_bad (p : Pol) (sm rm : Int) (l : List Smp) (hb : ¬ goodS sm ∨ ¬ (1 ≤ rm ∧ rm ≤ 64)) : (folq p sm rm l).out = [] := by
  have h := folq_all (fun n st => st.out = []) p sm rm l rfl (fun n st x _ h => by
    unfold fstep
    split
    · rename_i he
      split
      · dsimp only
        rw [if_neg]
        · exact h
        · rcases hb with hb | hb
          · unfold errr at he; rw [if_neg hb] at he
            split at he
            · cases he
            · rename_i h1; exact absurd he h1
          · exact hb
      · exact h
    · exact h) l.length (Nat.le_refl _)
  rwa [List.take_length] at h
/-- A series, a history and a list of the call's own, each by itself. -/
def FolIn (w1 wr : World) (ps ph : Option Addr) (v : Value) (st : Fst) (sm rm : Int) : Prop :=
  ∃ FS FH, SerV wr ps FS st.smps sm ∧ HistAt wr ph FH st.past rm ∧ OwnA wr w1.heap.size v st.out ∧ (∀ k, FS k → w1.heap.size ≤ k ∧ ¬ FH k ∧ v.ownBlock ≠ some k) ∧ (∀ k, FH k → w1.heap.size ≤ k ∧ v.ownBlock ≠ some k) ∧ Below w1.heap.size w1 wr ∧ w1.heap.size ≤ wr.heap.size
theorem FolIn.call {w1 wr w' : World} {ps ph : Option Addr} {v : Value} {st : Fst} {sm rm : Int} (h : FolIn w1 wr ps ph v st sm rm) (hb : Below wr.heap.size wr w') : FolIn w1 w' ps ph v st sm rm := by
  obtain ⟨FS, FH, h1, h2, h3, h4, h5, h6, h7⟩ := h
  exact ⟨FS, FH, h1.call hb, h2.call hb, h3.call hb, h4, h5, h6.trans (hb.mono h7), Nat.le_trans h7 hb.size⟩
theorem FolIn.ser {w1 wr : World} {ps ph : Option Addr} {v : Value} {st : Fst} {sm rm : Int} (h : FolIn w1 wr ps ph v st sm rm) : ∃ F, SerV wr ps F st.smps sm ∧ ∀ x e w', PutV ps F st.smps sm x wr e w' → e = .returned (.int .i64 (errr sm x)) ∧ FolIn w1 w' ps ph v ⟨putr st.smps sm x, st.past, st.out⟩ sm rm := by
  obtain ⟨FS, FH, h1, h2, h3, h4, h5, h6, h7⟩ := h
  refine ⟨FS, h1, ?_⟩
  rintro x e w' ⟨F', rfl, k1, k2, k3⟩
  have hlt := World.ownsRow.lt h3
  refine ⟨rfl, F', FH, k1, h2.upd k2 (fun k hk hs => (h4 k hs).2.1 hk), h3.upd k2 (fun k hk hs => (h4 k hs).2.2 hk), ?_, h5, h6.trans (k2.below (fun k hk => (h4 k hk).1) h7), Nat.le_trans h7 k2.size⟩
  intro k hk
  rcases k3 k hk with hk | hk
  · exact h4 k hk
  · exact ⟨Nat.le_trans h7 hk, fun hf => by have := h2.2 k hf; omega, fun hv => by have := (hlt k hv).2; omega⟩
theorem FolIn.hist {w1 wr : World} {ps ph : Option Addr} {v : Value} {st : Fst} {sm rm : Int} (h : FolIn w1 wr ps ph v st sm rm) : ∃ F, HistAt wr ph F st.past rm ∧ ∀ x e w', AddPost ph F st.past rm x wr e w' → e = .returned (.bool (decide (1 ≤ rm ∧ rm ≤ 64))) ∧ FolIn w1 w' ps ph v ⟨st.smps, hush st.past rm x, st.out⟩ sm rm := by
  obtain ⟨FS, FH, h1, h2, h3, h4, h5, h6, h7⟩ := h
  refine ⟨FH, h2, ?_⟩
  rintro x e w' ⟨F', rfl, k1, k2, k3⟩
  have hlt := World.ownsRow.lt h3
  refine ⟨rfl, FS, F', h1.upd k2 (fun k hk hs => (h4 k hk).2.1 hs), k1, h3.upd k2 (fun k hk hs => (h5 k hs).2 hk), ?_, ?_, h6.trans (k2.below (fun k hk => (h5 k hk).1) h7), Nat.le_trans h7 k2.size⟩
  · intro k hk
    refine ⟨(h4 k hk).1, fun hf => ?_, (h4 k hk).2.2⟩
    rcases k3 k hf with hf | hf
    · exact (h4 k hk).2.1 hf
    · have := h1.2 k hk; omega
  · intro k hk
    rcases k3 k hk with hk | hk
    · exact h5 k hk
    · exact ⟨Nat.le_trans h7 hk, fun hv => by have := (hlt k hv).2; omega⟩
theorem FolIn.hist2 {w1 wr : World} {ps ph : Option Addr} {v : Value} {st : Fst} {sm rm : Int} (h : FolIn w1 wr ps ph v st sm rm) : ∃ F, (∀ k, F k → k < wr.heap.size) ∧ ∀ wS, Below wr.heap.size wr wS → HistAt wS ph F st.past rm ∧ ∀ x e w', AddPost ph F st.past rm x wS e w' → e = .returned (.bool (decide (1 ≤ rm ∧ rm ≤ 64))) ∧ FolIn w1 w' ps ph v ⟨st.smps, hush st.past rm x, st.out⟩ sm rm ∧ Upd F wS w' := by
  obtain ⟨FS, FH, h1, h2, h3, h4, h5, h6, h7⟩ := h
  refine ⟨FH, h2.2, fun wS hb => ⟨h2.call hb, ?_⟩⟩
  rintro x e w' ⟨F', rfl, k1, k2, k3⟩
  have h3' := h3.call hb
  have h1' := h1.call hb
  have h7' := Nat.le_trans h7 hb.size
  have hlt := World.ownsRow.lt h3'
  refine ⟨rfl, ⟨FS, F', h1'.upd k2 (fun k hk hs => (h4 k hk).2.1 hs), k1, h3'.upd k2 (fun k hk hs => (h5 k hs).2 hk), ?_, ?_, (h6.trans (hb.mono h7)).trans (k2.below (fun k hk => (h5 k hk).1) h7'), Nat.le_trans h7' k2.size⟩, k2⟩
  · intro k hk
    refine ⟨(h4 k hk).1, fun hf => ?_, (h4 k hk).2.2⟩
    rcases k3 k hf with hf | hf
    · exact (h4 k hk).2.1 hf
    · have := h1'.2 k hk; omega
  · intro k hk
    rcases k3 k hk with hk | hk
    · exact h5 k hk
    · exact ⟨Nat.le_trans h7' hk, fun hv => by have := (hlt k hv).2; omega⟩
theorem FolIn.ser2 {w1 wr : World} {ps ph : Option Addr} {v : Value} {st : Fst} {sm rm : Int} (h : FolIn w1 wr ps ph v st sm rm) : ∃ FS FH, SerV wr ps FS st.smps sm ∧ HistAt wr ph FH st.past rm := by
  obtain ⟨FS, FH, h1, h2, h3, h4, h5, h6, h7⟩ := h; exact ⟨FS, FH, h1, h2⟩
theorem fstep_ok {p : Pol} {sm rm : Int} {st : Fst} {x : Smp} (h : errr sm x = 0) (h2 : ofe p (putr st.smps sm x) = 0) (h3 : 1 ≤ rm ∧ rm ≤ 64) : fstep p sm rm st x = ⟨putr st.smps sm x, hush st.past rm (ofq p (putr st.smps sm x) st.past), st.out ++ [ofq p (putr st.smps sm x) st.past]⟩ := by
  unfold fstep; rw [if_pos h, if_pos h2, if_pos h3]
theorem fstep_full {p : Pol} {sm rm : Int} {st : Fst} {x : Smp} (h : errr sm x = 0) (h2 : ofe p (putr st.smps sm x) = 0) (h3 : ¬ (1 ≤ rm ∧ rm ≤ 64)) : fstep p sm rm st x = ⟨putr st.smps sm x, hush st.past rm (ofq p (putr st.smps sm x) st.past), st.out⟩ := by
  unfold fstep; rw [if_pos h, if_pos h2, if_neg h3]
theorem fstep_skip {p : Pol} {sm rm : Int} {st : Fst} {x : Smp} (h : errr sm x = 0) (h2 : ofe p (putr st.smps sm x) ≠ 0) : fstep p sm rm st x = ⟨putr st.smps sm x, st.past, st.out⟩ := by
  unfold fstep; rw [if_pos h, if_neg h2]
theorem FolIn.push {w1 wr w' : World} {ps ph : Option Addr} {v v' : Value} {st : Fst} {sm rm : Int} {a : Adv} (h : FolIn w1 wr ps ph v st sm rm) (ho : OwnA w' w1.heap.size v' (st.out ++ [a])) (hu : Upd (fun k => v.ownBlock = some k) wr w') (hw : v'.ownBlock = v.ownBlock ∨ v'.ownBlock = some wr.heap.size) : FolIn w1 w' ps ph v' ⟨st.smps, st.past, st.out ++ [a]⟩ sm rm := by
  obtain ⟨FS, FH, h1, h2, h3, h4, h5, h6, h7⟩ := h
  have hlt := World.ownsRow.lt h3
  refine ⟨FS, FH, h1.upd hu (fun k hk hs => (h4 k hk).2.2 hs), h2.upd hu (fun k hk hs => (h5 k hk).2 hs), ho, fun k hk => ⟨(h4 k hk).1, (h4 k hk).2.1, fun e => ?_⟩, fun k hk => ⟨(h5 k hk).1, fun e => ?_⟩, h6.trans (hu.below (fun k hk => (hlt k hk).1) h7), Nat.le_trans h7 hu.size⟩
  · rcases hw with hw | hw
    · exact (h4 k hk).2.2 (hw.symm.trans e)
    · rw [hw] at e; injection e with e; have := h1.2 k hk; omega
  · rcases hw with hw | hw
    · exact (h5 k hk).2 (hw.symm.trans e)
    · rw [hw] at e; injection e with e; have := h2.2 k hk; omega
theorem FolIn.own {w1 wr : World} {ps ph : Option Addr} {v : Value} {st : Fst} {sm rm : Int} (h : FolIn w1 wr ps ph v st sm rm) : OwnA wr w1.heap.size v st.out := by
  obtain ⟨FS, FH, h1, h2, h3, h4, h5, h6, h7⟩ := h; exact h3
theorem FolIn.bel {w1 wr : World} {ps ph : Option Addr} {v : Value} {st : Fst} {sm rm : Int} (h : FolIn w1 wr ps ph v st sm rm) : Below w1.heap.size w1 wr := by
  obtain ⟨FS, FH, h1, h2, h3, h4, h5, h6, h7⟩ := h; exact h6
theorem FolIn.size {w1 wr : World} {ps ph : Option Addr} {v : Value} {st : Fst} {sm rm : Int} (h : FolIn w1 wr ps ph v st sm rm) : w1.heap.size ≤ wr.heap.size := by
  obtain ⟨FS, FH, h1, h2, h3, h4, h5, h6, h7⟩ := h; exact h7
theorem FolIn.start {w1 v1 v2 : World} {ps ph : Option Addr} {sm rm : Int} {FS FH : Nat → Prop} (h1 : SerV v1 ps FS [] sm) (h2 : ∀ k, FS k → w1.heap.size ≤ k) (h3 : Below w1.heap.size w1 v1) (h4 : HistAt v2 ph FH [] rm) (h5 : ∀ k, FH k → v1.heap.size ≤ k) (h6 : Below v1.heap.size v1 v2) : FolIn w1 v2 ps ph (.slice none 0 0) ⟨[], [], []⟩ sm rm :=
  ⟨FS, FH, h1.call h6, h4, Own.nil _ _ _ _ _, fun k hk => ⟨h2 k hk, fun hf => by have := h5 k hf; have := h1.2 k hk; omega, by simp [Value.ownBlock]⟩, fun k hk => ⟨Nat.le_trans h3.size (h5 k hk), by simp [Value.ownBlock]⟩, h3.trans (h6.mono h3.size), Nat.le_trans h3.size h6.size⟩
end Go.Proofs.YtjodpffdlggjgaaGreat
/- decide.Of: the walk. -/
namespace Go.Proofs.YtjodpffdlggjgaaGreat
open Go.RowKit
set_option linter.unusedSimpArgs false
set_option linter.unusedVariables false
set_option maxHeartbeats 8000000
set_option maxRecDepth 100000
theorem decide_Of (p : Pol) (A : Option Addr) (len cap : Nat) (l : List Smp) (B : Option Addr) (len2 cap2 : Nat) (past : List Adv) (w : World) (hp : p.fit) (hs : SmpsAre w A len cap l) (hg : ∀ x ∈ l, x.good) (hn : len ≤ 200) (hs2 : AdvsAre w B len2 cap2 past) (hn2 : len2 ≤ 1000) :
    Calls Tryz.prog 59 #[(.agg #[.int .i64 p.min, .int .i64 p.max, .int .i64 p.target, .int .i64 p.tol, .int .i64 p.window, .int .i64 p.hold]), .slice A len cap, .slice B len2 cap2] w fun e w' => e = .returned (.tuple #[.agg (ofq p l past).cells.toArray, .int .i64 (ofe p l)]) ∧ Below w.heap.size w w' := by
  have HS := Lib.hid hs
  have HS2 := Lib.hid hs2
  have HL := Lib.hid hs.1
  have HG := Lib.hid hg
  have HP := Lib.hid hp
  have HT := latestq_I64 hg
  have D0 := Lib.hid (DI.start w p)
  clear hs hs2 hg hp
  by_cases hk : p.okP
  · have HC := Lib.hid (fun W => policy_Check p W)
    rw [polErr_ok hk] at HC
    by_cases h0 : len = 0
    · have HQ := Lib.hid (ofq_nil (past := past) hk (show l.length = 0 by rw [HL.out]; exact h0))
      subst h0
      clear hk
      go_enter Tryz.func59, Tryz.ntmps59
      go_wp2_with fail
      refine (HC.out _).mono ?_
      rintro e v1 ⟨rfl, hb1⟩
      have D1 := Lib.hid (D0.out.call hb1)
      clear hb1
      go_wp2_with fail
      refine (decide_latest_no cap A _).mono ?_
      rintro e v2 ⟨rfl, rfl⟩
      go_wp2_with (refine wpList_store_row rfl 68 (.tmp 6) (.tmp 31) rfl (w.heap.size + 1) _ _ _ rfl rfl D1.out.2.1 (by rfl) (by kernel_rfl) (by simp [Value.oneCell']) ?_; intro w9 hb9 hg9)
      refine bodyPost_ret (results_row_tmp rfl _ _ (w.heap.size + 1) _ _ _ rfl hb9 Tryz.underlying68 rfl (by kernel_rfl)) rfl ⟨by rw [HQ.out.1, HQ.out.2]; rfl, D1.out.2.2.trans (Only.below hg9 (by omega) D1.out.2.2.size)⟩
    · have HQ := Lib.hid (ofq_ok (past := past) hk (show l.length ≠ 0 by rw [HL.out]; exact h0))
      have h1 : 1 ≤ len := by omega
      have HDq := Lib.hid (show decq p l past = (let tick := latestq l; let load := meanq (valq (cutq l (fromq tick p.window) tick)); let now := nowq p past; let op := openq p load now; let want := boundq p op; let th := boundq p (steadyq p tick want past).1; (⟨tick, load, want, th, whyq p (steadyq p tick want past).2 op now th⟩ : Adv)) from rfl)
      have HLa := Lib.hid (fun W hW => decide_latest A len cap l W hW h1 (by omega))
      have HAt := Lib.hid (fun W hW => window_At A len cap l (latestq l) p.window W hW HG.out hn HT HP.out.2.2.2.2.1)
      have hM := statq_mean (cutq l (fromq (latestq l) p.window) (latestq l))
      have hMI : I64 (meanq (valq (cutq l (fromq (latestq l) p.window) (latestq l)))) := by
        have := mean_least (l := valq (cutq l (fromq (latestq l) p.window) (latestq l))) (fun x hx => by have := valq_bd (cutq_good HG.out _ _) x hx; unfold I64; omega) (fun x hx => (valq_bd (cutq_good HG.out _ _) x hx).1) 0
        unfold I64; omega
      dsimp only at HDq
      rw [← hM] at HDq hMI
      generalize statq (cutq l (fromq (latestq l) p.window) (latestq l)) = ST at *
      generalize latestq l = T at *
      have HNo := Lib.hid (fun W hW => decide_Now p B len2 cap2 past W hW hn2)
      generalize nowq p past = NW at *
      have HWa := Lib.hid (fun W => control_Want p ST.mean W HP.out hMI)
      have HNe := Lib.hid (fun W => control_Near p ST.mean NW W HP.out hMI)
      have HRa := Lib.hid (fun W => control_Raw p ST.mean NW W HP.out hMI)
      rw [raw_open2] at HRa
      have HOp := Lib.hid (show openq p ST.mean NW = if nearq p ST.mean NW then NW else wantq p ST.mean from rfl)
      generalize openq p ST.mean NW = OP at *
      generalize boundq p OP = WT at *
      have HSt := Lib.hid (fun W hW => steady_Of p T WT B len2 cap2 past W HP.out hW hn2 HT)
      generalize steadyq p T WT past = SQ at *
      obtain ⟨sn, sh⟩ := SQ
      dsimp only at HSt HDq
      have HBo := Lib.hid (fun W => control_Bound p sn W)
      generalize boundq p sn = TH at *
      have HWh := Lib.hid (fun W => decide_why p sh OP NW TH W)
      generalize whyq p sh OP NW TH = WY at *
      clear hM h0 hk HT hMI
      go_enter Tryz.func59, Tryz.ntmps59
      go_wp2_with fail
      refine (HC.out _).mono ?_
      rintro e v1 ⟨rfl, hb1⟩
      have D1 := Lib.hid (D0.out.call hb1)
      clear hb1
      go_wp2_with fail
      refine (HLa.out _ (slice_keep HS.out D1.out.2.2)).mono ?_
      rintro e v2 ⟨rfl, hb2⟩
      have D2 := Lib.hid (D1.out.call hb2)
      clear hb2
      go_wp2
      refine wp_region_any (by kernel_rfl) ?_; change wpAny _ _ _ _ _ _ _ (World.drew v2); refine any_of_anyG (late := fun _ => false) (S := fun wS => Below v2.heap.size v2 wS) _ _ _ _ ?_
      have S0 := (Below.refl v2.heap.size v2).drew
      refine anyG_take (i := 0) (v := _) rfl (by kernel_rfl) (by kernel_rfl) (by kernel_rfl) (by kernel_rfl) rfl (by kernel_rfl) (fun j hj => by first | (simp at hj; done) | (simp at hj; simp; omega)) (fun _ _ _ h => h) (Or.inl ⟨by rfl, fun W1 hW1 => by first | rfl | (go_simp; done) | (go_simp; with_reducible rfl)⟩) (S0) ?_
      refine anyG_take (i := 1) (v := _) rfl (by kernel_rfl) (by kernel_rfl) (by kernel_rfl) (by kernel_rfl) rfl (by kernel_rfl) (fun j hj => by first | (simp at hj; done) | (simp at hj; simp; omega)) (fun _ _ _ h => h) (Or.inl ⟨by rfl, fun W1 hW1 => by first | rfl | (go_simp; done) | (go_simp; with_reducible rfl)⟩) (S0) ?_
      refine anyG_take (i := 2) (v := _) rfl (by kernel_rfl) (by kernel_rfl) (by kernel_rfl) (by kernel_rfl) rfl (by kernel_rfl) (fun j hj => by first | (simp at hj; done) | (simp at hj; simp; omega)) (fun _ _ _ h => h) (Or.inl ⟨by rfl, fun W1 hW1 => by first | rfl | (go_simp; done) | (go_simp; with_reducible rfl)⟩) (S0) ?_
      refine anyG_take (i := 3) (v := .int .i64 p.window) rfl (by kernel_rfl) (by kernel_rfl) (by kernel_rfl) (by kernel_rfl) rfl (by kernel_rfl) (fun j hj => by first | (simp at hj; done) | (simp at hj; simp; omega)) (fun _ _ _ h => h) (Or.inl ⟨by rfl, fun W1 hW1 => by have c := (D2.out.1.call hW1).cellv (i := 4) (v := .int .i64 p.window) rfl; go_simp⟩) (S0) ?_
      refine anyG_take (i := 6) (v := _) rfl (by kernel_rfl) (by kernel_rfl) (by kernel_rfl) (by kernel_rfl) rfl (by kernel_rfl) (fun j hj => by first | (simp at hj; done) | (simp at hj; simp; omega)) (fun _ _ _ h => h) (Or.inl ⟨by rfl, fun W1 hW1 => exec_load (ty := 23) (x := .tmp 3) rfl rfl (run_loadAt_blk _ _ _ _ _ _ (D2.out.1.call hW1) Tryz.underlying23 rfl (by first | kernel_rfl | exact info_num _))⟩) (S0) ?_
      refine anyG_take (i := 7) (v := _) rfl (by kernel_rfl) (by kernel_rfl) (by kernel_rfl) (by kernel_rfl) rfl (by kernel_rfl) (fun j hj => by first | (simp at hj; done) | (simp at hj; simp; omega)) (fun _ _ _ h => h) (Or.inl ⟨by rfl, fun W1 hW1 => by first | rfl | (go_simp; done) | (go_simp; with_reducible rfl)⟩) (S0) ?_
      refine anyG_one (k := 4) (by kernel_rfl) rfl (by rfl) (fun Q2 hQ2 => ?_); go_wp2_with (go_at_call 88; refine (HAt.out _ (slice_keep HS.out (D2.out.call S0).2.2)).mono ?_; rintro e v3 ⟨rfl, hb3⟩); refine hQ2 _ _ (fun _ => S0.trans (hb3.mono S0.size)) ?_; clear hQ2 Q2
      have S3 := S0.trans (hb3.mono S0.size)
      refine anyG_take (i := 5) (v := .int .i64 ST.mean) rfl (by kernel_rfl) (by kernel_rfl) (by kernel_rfl) (by kernel_rfl) rfl (by kernel_rfl) (fun j hj => by first | (simp at hj; done) | (simp at hj; simp; omega)) (fun _ _ _ h => h) (Or.inl ⟨by rfl, fun W1 hW1 => by first | kernel_rfl | (go_simp; done)⟩) (S3) ?_
      refine anyG_one (k := 8) (by kernel_rfl) rfl (by rfl) (fun Q2 hQ2 => ?_); go_wp2_with (go_at_call 89; refine (HNo.out _ (slice_keep HS2.out (D2.out.call S3).2.2)).mono ?_; rintro e v4 ⟨rfl, hb4⟩); refine hQ2 _ _ (fun _ => S3.trans (hb4.mono S3.size)) ?_; clear hQ2 Q2
      have S4 := S3.trans (hb4.mono S3.size)
      refine anyG_one (k := 9) (by kernel_rfl) rfl (by rfl) (fun Q2 hQ2 => ?_); go_wp2_with fail; refine hQ2 _ _ (fun _ => S4) ?_; clear hQ2 Q2
      refine anyG_one (k := 10) (by kernel_rfl) rfl (by rfl) (fun Q2 hQ2 => ?_); go_wp2_with fail; refine hQ2 _ _ (fun _ => S4) ?_; clear hQ2 Q2
      refine anyG_done (by kernel_rfl) ?_ _
      have D4 := Lib.hid (D2.out.call S4)
      go_wp2_with (refine Blk.load rfl 23 (.tmp 3) rfl w.heap.size _ _ _ rfl D4.out.1 Tryz.underlying23 rfl (by kernel_rfl) ?_)
      refine (HWa.out _).mono ?_
      rintro e v5 ⟨rfl, hb5⟩
      have D5 := Lib.hid (D4.out.call hb5)
      clear hb5
      go_wp2_with (refine Blk.load rfl 23 (.tmp 3) rfl w.heap.size _ _ _ rfl D5.out.1 Tryz.underlying23 rfl (by kernel_rfl) ?_)
      refine (HNe.out _).mono ?_
      rintro e v6 ⟨rfl, hb6⟩
      have D6 := Lib.hid (D5.out.call hb6)
      clear hb6
      cases hnr : nearq p ST.mean NW
      all_goals
        rw [hnr] at HOp
        clear hnr
        simp only [Bool.false_eq_true, if_false, if_true] at HOp
        go_wp2_with (refine Blk.load rfl 23 (.tmp 3) rfl w.heap.size _ _ _ rfl D6.out.1 Tryz.underlying23 rfl (by kernel_rfl) ?_)
        refine (HRa.out _).mono ?_
        rintro e v7 ⟨rfl, hb7⟩
        have D7 := Lib.hid (D6.out.call hb7)
        clear hb7
        go_wp2_with (refine Blk.load rfl 23 (.tmp 3) rfl w.heap.size _ _ _ rfl D7.out.1 Tryz.underlying23 rfl (by kernel_rfl) ?_)
        refine (HSt.out _ (slice_keep HS2.out D7.out.2.2)).mono ?_
        rintro e v8 ⟨rfl, hb8⟩
        have D8 := Lib.hid (D7.out.call hb8)
        clear hb8
        go_wp2_with (refine Blk.load rfl 23 (.tmp 3) rfl w.heap.size _ _ _ rfl D8.out.1 Tryz.underlying23 rfl (by kernel_rfl) ?_)
        refine (HBo.out _).mono ?_
        rintro e v9 ⟨rfl, hb9⟩
        have D9 := Lib.hid (D8.out.call hb9)
        clear hb9
        first | (rw [HOp.out] at HWh) | skip
        go_wp2_with (refine Blk.load rfl 23 (.tmp 3) rfl w.heap.size _ _ _ rfl D9.out.1 Tryz.underlying23 rfl (by kernel_rfl) ?_)
        refine (HWh.out _).mono ?_
        rintro e v10 ⟨rfl, hb10⟩
        have D10 := Lib.hid (D9.out.call hb10)
        clear hb10
        go_wp2_with (refine wpList_store_row rfl 68 (.tmp 6) (.tmp 74) rfl (w.heap.size + 1) _ _ _ rfl rfl D10.out.2.1 (by rfl) (by kernel_rfl) (by simp [Value.oneCell']) ?_; intro w9 hb9 hg9)
        refine bodyPost_ret (results_row_tmp rfl _ _ (w.heap.size + 1) _ _ _ rfl hb9 Tryz.underlying68 rfl (by kernel_rfl)) rfl ⟨by rw [HQ.out.1, HQ.out.2, HDq.out]; rfl, D10.out.2.2.trans (Only.below hg9 (by omega) D10.out.2.2.size)⟩
  · have HC := Lib.hid (fun W => policy_Check p W)
    rw [polErr_no hk] at HC
    have HQ := Lib.hid (ofq_no (l := l) (past := past) hk)
    clear hk HT
    go_enter Tryz.func59, Tryz.ntmps59
    go_wp2_with fail
    refine (HC.out _).mono ?_
    rintro e v1 ⟨rfl, hb1⟩
    have D1 := Lib.hid (D0.out.call hb1)
    clear hb1
    go_wp2_with (refine wpList_store_row rfl 68 (.tmp 6) (.tmp 22) rfl (w.heap.size + 1) _ _ _ rfl rfl D1.out.2.1 (by rfl) (by kernel_rfl) (by simp [Value.oneCell']) ?_; intro w9 hb9 hg9)
    refine bodyPost_ret (results_row_tmp rfl _ _ (w.heap.size + 1) _ _ _ rfl hb9 Tryz.underlying68 rfl (by kernel_rfl)) rfl ⟨by rw [HQ.out.1, HQ.out.2]; rfl, D1.out.2.2.trans (Only.below hg9 (by omega) D1.out.2.2.size)⟩
end Go.Proofs.YtjodpffdlggjgaaGreat
/- flywheelref14.Put: the last decisions behind one more. -/
namespace Go.Proofs.YtjodpffdlggjgaaGreat
open Go.RowKit
set_option linter.unusedSimpArgs false
set_option linter.unusedVariables false
set_option maxHeartbeats 4000000
set_option maxRecDepth 100000
def PutA (w : World) (l : List Adv) (e : Ending) (w' : World) : Prop := ∃ A n c, e = .returned (.slice A n c) ∧ AdvsAre w' A n c l ∧ Below w.heap.size w w' ∧ (∀ a, A = some a → w.heap.size ≤ a.block ∧ a.block < w'.heap.size)
theorem ownA_is {w : World} {base : Nat} {A : Option Addr} {n c : Nat} {l : List Adv} (h : OwnA w base (.slice A n c) l) : AdvsAre w A n c l := by
  obtain ⟨A', n', c', he, _, hs⟩ := h.shape adv_len
  cases he; exact hs
theorem slice_tailA {w : World} {base h n c : Nat} {y : Adv} {l : List Adv} (ho : OwnA w base (.slice (some ⟨h, 0, none⟩) n c) (y :: l)) : (c = 1 → l = []) ∧ (c ≠ 1 → AdvsAre w (some ⟨h, 5, none⟩) (n - 1) (c - 1) l) ∧ (l = [] → AdvsAre w (some ⟨h, 0, none⟩) (n - 1) (c - 1) l) := by
  have hs := ownA_is ho
  have hl := hs.1
  have hnc := hs.2.1
  simp only [List.length_cons] at hl
  refine ⟨fun hc => List.eq_nil_of_length_eq_zero (by omega), fun hc => ⟨by omega, by omega, by have := hs.2.2.1; omega, (fun h => by cases h), fun a ha => ?_⟩, fun hl0 => ⟨by rw [hl0]; simp; rw [hl0] at hl; simp at hl; omega, by omega, by have := hs.2.2.1; omega, (fun h => by cases h), fun a ha => ?_⟩⟩
  · cases ha
    obtain ⟨h1, h2⟩ := hs.2.2.2.2 _ rfl
    refine ⟨fun i x hi j v hj => ?_, fun _ => h2 (by omega)⟩
    have := h1 (i + 1) x (by simpa using hi) j v hj
    rw [Addr.add_lit] at this ⊢
    rw [show 5 + (i * 5 + j) = 0 + ((i + 1) * 5 + j) by omega]
    exact this
  · cases ha
    obtain ⟨h1, h2⟩ := hs.2.2.2.2 _ rfl
    refine ⟨fun i x hi => by rw [hl0] at hi; simp at hi, fun hn => h2 (by omega)⟩
theorem Own.someA {α : Type} {w : World} {base e size : Nat} {cells : α → List Value} {v : Value} {l : List α} (h : Own w base e size cells v l) (hsz : ∀ x, (cells x).length = size) (hl : 0 < l.length) : ∃ g n c, v = .slice (some ⟨g, 0, none⟩) n c ∧ n = l.length := by
  rcases h.2 with ⟨rfl, hn⟩ | ⟨g, cap, cur, rfl, _⟩
  · omega
  · exact ⟨g, _, cap, rfl, rfl⟩
theorem ref14_Put (A : Option Addr) (len cap : Nat) (l : List Adv) (room : Nat) (x : Adv) (w : World) (hs : AdvsAre w A len cap l) (hn : len ≤ 10000) (hroom : room ≤ 1000000) :
    Calls Tryz.prog 39 #[.slice A len cap, .int .i64 room, .agg (rowA x)] w (PutA w (pushq l room x)) := by
  have hL : l.length = len := hs.1
  have HL := Lib.hid hL
  have HN := Lib.hid hn
  have B0 := Lib.hid (show Below w.heap.size w ((w.alloc (.cells (rowA x) 68)).alloc (.cells #[] 68)) by go_grown)
  have HS := Lib.hid (slice_keep hs B0.out)
  have HX := Lib.hid ((Blk.new w 68 (rowA x)).alloc (.cells #[] 68))
  have HO := Lib.hid (show OwnA ((w.alloc (.cells (rowA x) 68)).alloc (.cells #[] 68)) (w.alloc (.cells (rowA x) 68)).heap.size (.slice (some ⟨(w.alloc (.cells (rowA x) 68)).heap.size, 0, none⟩) 0 0) [] from World.ownsRow_made (w.alloc (.cells (rowA x) 68)) #[] 0 (Nat.le_refl _) (Nat.zero_le _) rfl)
  simp only [World.size_alloc] at HO
  have HQ := Lib.hid (show pushq l room x = if room < (l ++ [x]).length then (l ++ [x]).drop 1 else l ++ [x] from rfl)
  generalize pushq l room x = Q at *
  clear hs hL hn
  go_enter Tryz.func39, Tryz.ntmps39
  go_upto_region 3 with (first
    | (at_builtin; refine wpList_cat _ rfl (.tmp 8) (.tmp 9) 26 rfl (w.heap.size + 1) 68 _ 5 40 Adv.cells Tryz.underlying26 info_adv (by rfl) (by decide) (fun _ => rfl) adv_one (.slice (some ⟨w.heap.size + 1, 0, none⟩) 0 0) [] rfl HO.out A len cap l rfl HS.out (by have := HN.out; simp; omega) (by decide) (by simp) ?_; intro v1 w1 ho1 hb1 hg1; have H1 := Lib.hid ho1; have X1 := Lib.hid (HX.out.below hb1 (Nat.lt_succ_self _)); have E1 := Lib.hid (B0.out.trans (hb1.mono (Nat.le_succ _))); have Z1 := Lib.hid hb1.size; obtain ⟨A1, n1, c1, rfl, -, -⟩ := ho1.shape adv_len; have x0 := X1.out.cellv (i := 0) rfl; have x1 := X1.out.cellv (i := 1) rfl; have x2 := X1.out.cellv (i := 2) rfl; have x3 := X1.out.cellv (i := 3) rfl; have x4 := X1.out.cellv (i := 4) rfl; clear ho1 hb1 hg1)
    | (at_builtin; refine wpList_push _ rfl (.tmp 11) (.tmp 13) 26 rfl (w.heap.size + 1) 68 _ 5 40 Adv.cells Tryz.underlying26 info_adv (by rfl) (by decide) (fun _ => rfl) adv_one (.slice A1 n1 c1) ([] ++ l) rfl (Own.alloc H1.out _) ⟨w1.heap.size, 0, none⟩ 1 x rfl (blk_news (α := Adv) (vs := x.cells) (Blk.new _ _ _) rfl) (by have := HL.out; have := HN.out; simp; omega) (by decide) (by have := Z1.out; simp at *; omega) ?_; intro v2 w2 ho2 hb2 hg2; have H2 := Lib.hid ho2; have E2 := Lib.hid ((E1.out.alloc (Nat.le_trans B0.out.size Z1.out) _).trans (hb2.mono (Nat.le_succ _))); obtain ⟨h2, n2, c2, rfl, hn2⟩ := Own.someA ho2 adv_len (by simp); have HN2 := Lib.hid hn2; have HF := Lib.hid (show w.heap.size ≤ h2 ∧ h2 < _ from ⟨Nat.le_of_lt (World.ownsRow.lt ho2 h2 rfl).1, (World.ownsRow.lt ho2 h2 rfl).2⟩); clear ho2 hb2 hg2 hn2 x0 x1 x2 x3 x4))
  have hc2 := (ownA_is H2.out).2.1
  have hc3 : c2 ≤ 9223372036854775807 := by have := (ownA_is H2.out).2.2.1; unfold maxLen at this; omega
  have hl2 : n2 = (l ++ [x]).length := HN2.out
  have hn4 : 1 ≤ n2 := by rw [hl2]; simp
  have hn5 : n2 ≤ 20000 := by rw [hl2]; have := HL.out; have := HN.out; simp; omega
  obtain ⟨y, T, hyT⟩ : ∃ y T, l ++ [x] = y :: T := by cases l with | nil => exact ⟨_, _, rfl⟩ | cons a b => exact ⟨_, _, rfl⟩
  have H3 := Lib.hid (show OwnA w2 (w.heap.size + 1) (.slice (some ⟨h2, 0, none⟩) n2 c2) (y :: T) from hyT ▸ H2.out)
  have HT := Lib.hid hyT
  have HN3 := Lib.hid hl2
  clear hl2 hyT
  by_cases hr : room < n2
  · have H4 := Lib.hid (show Q = T by rw [HQ.out, ← HN3.out, if_pos hr, HT.out]; rfl)
    by_cases hc : c2 = 1
    · subst hc
      go_wp2
      go_ret
      refine ⟨_, _, _, rfl, ?_, E2.out, fun a ha => by cases ha; exact HF.out⟩
      have E5 := (slice_tailA H3.out).1 rfl
      have h0 : n2 - 1 = 0 := by omega
      have E6 := (slice_tailA H3.out).2.2 E5
      rw [h0] at E6
      rw [H4.out]
      exact E6
    · go_wp2
      go_ret
      refine ⟨_, _, _, rfl, ?_, E2.out, fun a ha => by cases ha; exact HF.out⟩
      rw [H4.out]
      exact (slice_tailA H3.out).2.1 hc
  · have H4 := Lib.hid (show Q = y :: T by rw [HQ.out, ← HN3.out, if_neg hr, HT.out])
    go_wp2
    go_ret
    refine ⟨_, _, _, rfl, ?_, E2.out, fun a ha => by cases ha; exact HF.out⟩
    rw [H4.out]
    exact ownA_is H3.out
end Go.Proofs.YtjodpffdlggjgaaGreat
/- decide.Follow: the walk. (fast region) -/
namespace Go.Proofs.YtjodpffdlggjgaaGreat
open Go.RowKit
set_option linter.unusedSimpArgs false
set_option linter.unusedVariables false
set_option maxHeartbeats 8000000
set_option maxRecDepth 100000
theorem smp_eta (x : Smp) : x = ⟨x.tick, x.value⟩ := rfl
def FolPost (p : Pol) (sm rm : Int) (l : List Smp) (w : World) (e : Ending) (w' : World) : Prop := ∃ A n c, e = .returned (.slice A n c) ∧ OwnA w' w.heap.size (.slice A n c) (folq p sm rm l).out ∧ Below w.heap.size w w'
theorem decide_Follow (p : Pol) (A : Option Addr) (len cap : Nat) (l : List Smp) (sm rm : Int) (w : World) (hp : p.fit) (hs : SmpsAre w A len cap l) (hg : ∀ x ∈ l, x.good) (hn : len ≤ 200) (hrm : I64 rm) :
    Calls Tryz.prog 30 #[(.agg #[.int .i64 p.min, .int .i64 p.max, .int .i64 p.target, .int .i64 p.tol, .int .i64 p.window, .int .i64 p.hold]), .slice A len cap, .int .i64 sm, .int .i64 rm] w (FolPost p sm rm l w) := by
  have HS := Lib.hid hs
  have HL := Lib.hid hs.1
  have HG := Lib.hid hg
  have HP := Lib.hid hp
  have HR := Lib.hid hrm
  have HN := Lib.hid (fun (k : Nat) (x : Smp) (h : l[k]? = some x) => folq_next p sm rm h)
  have HQ := Lib.hid (fun k hk => folq_len p sm rm l k hk)
  have HQg := Lib.hid (fun k hk => folq_good p sm rm l hg k hk)
  have hmf : ∀ (fn : Fn) (first cap : Array Value) (w : World), (Instr.makeFunc fn first cap).run Tryz.prog w = .ok (.func fn first cap) w := fun _ _ _ _ => rfl
  clear hs hg hp hrm
  obtain ⟨w1, hw1⟩ : ∃ w1, w1 = w.alloc (.cells #[.int .i64 p.min, .int .i64 p.max, .int .i64 p.target, .int .i64 p.tol, .int .i64 p.window, .int .i64 p.hold] 23) := ⟨_, rfl⟩
  have B1 := Lib.hid (show Blk w1 w.heap.size 23 #[.int .i64 p.min, .int .i64 p.max, .int .i64 p.target, .int .i64 p.tol, .int .i64 p.window, .int .i64 p.hold] by rw [hw1]; exact Blk.new _ _ _)
  have E1 := Lib.hid (show Below w.heap.size w w1 by rw [hw1]; go_grown)
  go_enter Tryz.func30, Tryz.ntmps30
  go_upto_region 1 with (fail)
  rw [← hw1]
  clear hw1
  go_wp2_with (first
    | (go_at_call 41; refine (serv_New sm _).mono ?_; rintro e v1 ⟨ps, FS, rfl, k1, k2, k3⟩; have K1 := Lib.hid k1; have K2 := Lib.hid k2; have K3 := Lib.hid k3; clear k1 k2 k3)
    | (go_at_call 42; refine (history_New rm _ HR.out).mono ?_; rintro e v2 ⟨ph, FH, rfl, k1, k2, k3⟩; have F2 := Lib.hid (FolIn.start K1.out K2.out K3.out k1 k2 k3); clear k1 k2 k3 K1 K2 K3))
  go_loopw [13, 28] (fun v i wr => ∃ k : Nat, k ≤ len ∧ i = .int .i64 k ∧ FolIn w1 wr ps ph v (folq p sm rm (l.take k)) sm rm) (fun _ i _ => len - (intOf i).toNat)
  case atStart => exact ⟨0, Nat.zero_le _, rfl, F2.out⟩
  case round =>
    obtain ⟨k, hk, rfl, hin⟩ := hrel
    obtain ⟨A5, n5, c5, rfl, -, -⟩ := hin.own.shape adv_len
    have HI := Lib.hid hin
    clear hin
    by_cases hlt : k < len
    · obtain ⟨b, off, x, rfl, hx, hb, t0, t1⟩ := HS.out.at_ hlt
      have hbw := E1.out.trans (HI.out.bel.mono E1.out.size)
      have kt0 := (hbw.cell (p := ⟨b, off + k * 2, none⟩) hb).trans t0
      have kt1 := (hbw.cell (p := ⟨b, off + k * 2 + 1, none⟩) hb).trans t1
      have hki : (k : Int) < (len : Int) := by omega
      have HN1 := Lib.hid (HN.out k x hx)
      have HLn := Lib.hid (HQ.out (k + 1) (by have := HL.out; omega)).1
      have HGd := Lib.hid (HQg.out (k + 1) (by have := HL.out; omega))
      have HLo := Lib.hid (HQ.out k (by have := HL.out; omega)).2
      rw [HN1.out, fstep_smps] at HLn HGd
      clear hx hb t0 t1 hbw
      have I1 := Lib.hid (HI.out.call (w' := wr.alloc (.cells #[.int .i64 x.tick, .int .i64 x.value] 75)) ((Below.refl _ wr).alloc (Nat.le_refl _) _))
      clear HI
      generalize folq p sm rm (l.take k) = st at *
      obtain ⟨FS, hS, hSput⟩ := I1.out.ser
      have HS1 := Lib.hid hS
      have HPt := Lib.hid hSput
      clear hS hSput
      by_cases he : errr sm x = 0
      · have d1 : (errr sm x != 0) = false := by rw [he]; rfl
        have HE := Lib.hid he
        clear he
        go_upto_region 8 with (go_at_call 57; refine (serv_Put ps FS st.smps sm x _ HS1.out).mono ?_; intro e w2 hp; obtain ⟨rfl, hI⟩ := HPt.out x _ _ hp; have I2 := Lib.hid hI; clear hp hI)
        have B2 := Lib.hid (B1.out.call I2.out.bel)
        obtain ⟨FS2, FH2, hS2, hH2⟩ := I2.out.ser2
        obtain ⟨FX, hFl, hAd⟩ := I2.out.hist2
        have HS2 := Lib.hid hS2
        have HH2 := Lib.hid hH2
        have HFl := Lib.hid hFl
        have HAd := Lib.hid hAd
        have HPl := Lib.hid hH2.len
        have H1 := Lib.hid (fun h2 h3 => HN1.out.trans (fstep_ok HE.out h2 h3))
        have H2 := Lib.hid (fun h2 h3 => HN1.out.trans (fstep_full HE.out h2 h3))
        have H3 := Lib.hid (fun h2 => HN1.out.trans (fstep_skip (rm := rm) HE.out h2))
        clear hS2 hH2 hFl hAd HPt HS1 I1 HN1 HE d1
        dsimp only at HAd HS2 HH2 HPl
        generalize putr st.smps sm x = hh at *
        have HOf := Lib.hid (fun W A n c B m d hW hW2 hn hm => (show Calls Tryz.prog 59 #[(.agg #[.int .i64 p.min, .int .i64 p.max, .int .i64 p.target, .int .i64 p.tol, .int .i64 p.window, .int .i64 p.hold]), .slice A n c, .slice B m d] W fun e w' => e = .returned (.tuple #[.agg #[.int .i64 (ofq p hh st.past).tick, .int .i64 (ofq p hh st.past).load, .int .i64 (ofq p hh st.past).want, .int .i64 (ofq p hh st.past).repl, .int .i64 (ofq p hh st.past).why], .int .i64 (ofe p hh)]) ∧ Below W.heap.size W w' from decide_Of p A n c hh B m d st.past W HP.out hW HGd.out hn hW2 hm))
        generalize ofq p hh st.past = X at *
        generalize ofe p hh = OE at *
        have HLo2 := Lib.hid (show st.out.length < 1000000 by have := HLo.out; omega)
        have HLn2 := Lib.hid (show hh.length ≤ 200 by have := HLn.out; omega)
        clear HLo HLn
        refine wp_region_any (by kernel_rfl) ?_; change wpAny _ _ _ _ _ _ _ (World.drew w2); refine any_of_anyG (late := fun _ => false) (S := fun wS => Below w2.heap.size w2 wS) _ _ _ _ ?_
        have S0 := (Below.refl w2.heap.size w2).drew
        refine anyG_takes (is := [0, 1, 3]) (vs := [_, _, _]) (m := 9) (listed2 := #[true, true, false, true, false, false, false, false, false, false, false, false]) (a2 := ⟨#[_, _, _, _, _, _, _, _, _, _, _, _, _, _, _, _, _, _, _, _, _, _, _, _, _, _, _, _, _, _, _, _, _, _, _, _, _, _, _, _, _, _, _, _, _, _, _, _, _, _, _, _, _, _, _, _, _, _, _, _, _], _⟩) (by kernel_rfl) (fun j hj => by simp at hj) (by kernel_rfl) (fun _ _ _ _ _ h => h) (Ys.cons rfl (Or.inl ⟨by rfl, fun W1 hW1 => exec_load (ty := 23) (x := .tmp 4) rfl rfl (run_loadAt_blk _ _ _ _ _ _ (B2.out.call hW1) Tryz.underlying23 rfl (by first | kernel_rfl | exact info_num _))⟩) (Ys.cons rfl (Or.inl ⟨by rfl, fun W1 hW1 => by first | rfl | (go_simp; done) | (go_simp; with_reducible rfl)⟩) (Ys.cons rfl (Or.inl ⟨by rfl, fun W1 hW1 => by first | rfl | (go_simp; done) | (go_simp; with_reducible rfl)⟩) (Ys.nil)))) (S0) (by rfl) (by rfl) ?_
        refine anyG_two (i := 2) (j := 9) (by kernel_rfl) rfl (by rfl) rfl (by rfl) (fun Q2 hQ2 => ?_) (fun Q2 hQ2 => ?_)
        ·
          go_wp2_with (go_at_call 60; refine (serv_List ps FS2 hh sm _ (HS2.out.call S0)).mono ?_; rintro e v3 ⟨A3, n3, c3, rfl, ho3, hb3⟩; have L3 := Lib.hid (ho3.is smp_len); clear ho3; (try have bG := bG.call hb3))
          refine hQ2 _ _ (fun _ => S0.trans (hb3.mono S0.size)) ?_
          clear hQ2 Q2
          have S3 := S0.trans (hb3.mono S0.size)
          refine anyG_two (i := 4) (j := 9) (by kernel_rfl) rfl (by rfl) rfl (by rfl) (fun Q2 hQ2 => ?_) (fun Q2 hQ2 => ?_)
          ·
            go_wp2_with (go_at_call 61; refine (history_List ph FH2 st.past rm _ (HH2.out.call S3)).mono ?_; rintro e v4 ⟨u4, rfl, ho4, hb4⟩; obtain ⟨A4, n4, c4, rfl, -, -⟩ := ho4.shape adv_len; have L4 := Lib.hid (ownA_is ho4); have M3 := Lib.hid (by first | exact slice_keep L3.out hb4 | exact slice_keep (slice_keep L3.out (by go_grown)) hb4); clear L3 ho4; (try have bG := bG.call hb4))
            refine hQ2 _ _ (fun _ => S3.trans (hb4.mono S3.size)) ?_
            clear hQ2 Q2
            have S4 := S3.trans (hb4.mono S3.size)
            refine anyG_two (i := 5) (j := 9) (by kernel_rfl) rfl (by rfl) rfl (by rfl) (fun Q2 hQ2 => ?_) (fun Q2 hQ2 => ?_)
            ·
              go_wp2_with (go_at_call 59; refine (HOf.out _ A3 n3 c3 A4 n4 c4 (by first | exact M3.out | exact slice_keep M3.out (by go_grown)) (by first | exact L4.out | exact slice_keep L4.out (by go_grown)) (by rw [← M3.out.1]; exact HLn2.out) (by rw [← L4.out.1]; have := HPl.out; omega)).mono ?_; rintro e v5 ⟨rfl, hb5⟩; (try have bG := bG.call hb5))
              refine hQ2 _ _ (fun _ => S4.trans (hb5.mono S4.size)) ?_
              clear hQ2 Q2
              have S5 := S4.trans (hb5.mono S4.size)
              refine anyG_takes (is := [6, 7, 8]) (vs := [_, _, _]) (m := 3) (listed2 := #[true, true, true, true, true, true, true, true, true, false, false, false]) (a2 := ⟨#[_, _, _, _, _, _, _, _, _, _, _, _, _, _, _, _, _, _, _, _, _, _, _, _, _, _, _, _, _, _, _, _, _, _, _, _, _, _, _, _, _, _, _, _, _, _, _, _, _, _, _, _, _, _, _, _, _, _, _, _, _], _⟩) (by kernel_rfl) (fun j hj => by simp at hj) (by kernel_rfl) (fun _ _ _ _ _ h => h) (Ys.cons rfl (Or.inl ⟨by rfl, fun W1 hW1 => by first | rfl | (go_simp; done) | (go_simp; with_reducible rfl)⟩) (Ys.cons rfl (Or.inl ⟨by rfl, fun W1 hW1 => by first | rfl | (go_simp; done) | (go_simp; with_reducible rfl)⟩) (Ys.cons rfl (Or.inl ⟨by rfl, fun W1 hW1 => by first | rfl | (go_simp; done) | (go_simp; with_reducible rfl)⟩) (Ys.nil)))) (S5) (by rfl) (by rfl) ?_
              refine anyG_one (k := 9) (by kernel_rfl) rfl (by rfl) (fun Q2 hQ2 => ?_)
              have nG := new_at (S := S5) (zA) 68
              obtain ⟨G, hG, bG, lG⟩ := nG
              go_wp2_with fail
              refine hQ2 _ _ (fun _ => S5.alloc S5.size _) ?_
              clear hQ2 Q2
              (try simp only [hG])
              clear hG
              have SG := S5.alloc S5.size (.cells (zA) 68)
              refine anyG_one (k := 10) (by kernel_rfl) rfl (by rfl) (fun Q2 hQ2 => ?_); go_wp2_with (refine wpList_store_row rfl 68 (.tmp 16) _ rfl _ _ _ _ rfl rfl (bG) (by rfl) (by kernel_rfl) (by simp [Value.oneCell']) ?_; intro uG huG hwG); refine hQ2 _ _ (fun _ => SG.trans (Only.below hwG lG SG.size)) ?_; clear hQ2 Q2
              have SsG := SG.trans (Only.below hwG lG SG.size)
              refine anyG_takes (is := [11]) (vs := [.int .i64 OE]) (m := 0) (listed2 := #[true, true, true, true, true, true, true, true, true, true, true, true]) (a2 := ⟨#[_, _, _, _, _, _, _, _, _, _, _, _, _, _, _, _, _, _, _, _, _, _, _, _, _, _, _, _, _, _, _, _, _, _, _, _, _, _, _, _, _, _, _, _, _, _, _, _, _, _, _, _, _, _, _, _, _, _, _, _, _], _⟩) (by kernel_rfl) (fun j hj => by simp at hj) (by kernel_rfl) (fun _ _ _ _ _ h => h) (Ys.cons rfl (Or.inl ⟨by rfl, fun W1 hW1 => by rfl⟩) (Ys.nil)) (SsG) (by rfl) (by rfl) ?_
              refine anyG_done (by kernel_rfl) ?_ _
              have G9 := Lib.hid huG
              have S9 := Lib.hid SsG
              have hlG := lG
              obtain ⟨hA, hB⟩ := HAd.out _ S9.out
              have HA9 := Lib.hid hA
              have HB9 := Lib.hid hB
              have I9 := Lib.hid (I2.out.call S9.out)
              clear hA hB
              have g0 := G9.out.cellv (i := 0) (v := .int .i64 X.tick) rfl
              have g1 := G9.out.cellv (i := 1) (v := .int .i64 X.load) rfl
              have g2 := G9.out.cellv (i := 2) (v := .int .i64 X.want) rfl
              have g3 := G9.out.cellv (i := 3) (v := .int .i64 X.repl) rfl
              have g4 := G9.out.cellv (i := 4) (v := .int .i64 X.why) rfl
              by_cases ho : OE = 0
              · have d2 : (OE == 0) = true := by simpa using ho
                by_cases hr : 1 ≤ rm ∧ rm ≤ 64
                · have d3 : decide (1 ≤ rm ∧ rm ≤ 64) = true := decide_eq_true hr
                  have HE := Lib.hid (H1.out ho hr)
                  clear ho hr H1 H2 H3
                  go_wp2_with (first
                    | (refine Blk.load rfl 68 (.tmp 16) rfl _ _ _ _ rfl G10.out Tryz.underlying68 rfl (by kernel_rfl) ?_)
                    | (refine Blk.load rfl 68 (.tmp 16) rfl _ _ _ _ rfl G9.out Tryz.underlying68 rfl (by kernel_rfl) ?_)
                    | (go_at_call 58; refine (history_Add ph FX st.past rm X _ HA9.out).mono ?_; intro e w6 hp; obtain ⟨rfl, hI6, hU6⟩ := HB9.out X _ _ hp; have I6 := Lib.hid hI6; have G10 := Lib.hid (G9.out.upd hU6 (fun hf => by have := HFl.out _ hf; omega)); clear hp hI6 hU6 g0 g1 g2 g3 g4)
                    | (at_builtin; refine wpList_push2 _ rfl (.tmp 55) (.tmp 57) 26 rfl w1.heap.size 68 _ 5 40 _ Tryz.underlying26 info_adv (by rfl) (by decide) (fun _ => rfl) adv_one (.slice A5 n5 c5) st.out rfl (I6.out.own.alloc _) ⟨_, 0, none⟩ 1 X rfl (blk_news (α := Adv) (vs := X.cells) (Blk.new _ _ _) rfl) HLo2.out (by decide) (by have := I6.out.size; simp; omega) ?_; intro v' w7 ho7 hu7 hw7; obtain ⟨A7, n7, c7, rfl, -, -⟩ := ho7.shape adv_len; have I7 := Lib.hid (FolIn.push (I6.out.call (by go_grown)) ho7 hu7 hw7); clear ho7 hu7 hw7))
                  go_roundw
                  case rel => exact ⟨k + 1, by omega, by go_num, by rw [HE.out]; exact I7.out⟩
                  case measure => simp [intOf]; omega
                · have d3 : decide (1 ≤ rm ∧ rm ≤ 64) = false := decide_eq_false hr
                  have HE := Lib.hid (H2.out ho hr)
                  clear ho hr H1 H2 H3
                  go_wp2_with (first
                    | (refine Blk.load rfl 68 (.tmp 16) rfl _ _ _ _ rfl G9.out Tryz.underlying68 rfl (by kernel_rfl) ?_)
                    | (go_at_call 58; refine (history_Add ph FX st.past rm X _ HA9.out).mono ?_; intro e w6 hp; obtain ⟨rfl, hI6, hU6⟩ := HB9.out X _ _ hp; have I6 := Lib.hid hI6; clear hp hI6 hU6))
                  go_roundw
                  case rel => exact ⟨k + 1, by omega, by go_num, by rw [HE.out]; exact I6.out⟩
                  case measure => simp [intOf]; omega
              · have d2 : (OE == 0) = false := by simpa using ho
                have HE := Lib.hid (H3.out ho)
                clear ho H1 H2 H3
                go_wp2_with fail
                go_roundw
                case rel => exact ⟨k + 1, by omega, by go_num, by rw [HE.out]; exact I9.out⟩
                case measure => simp [intOf]; omega
            ·
              skip
              have nG := new_at (S := S4) (zA) 68
              obtain ⟨G, hG, bG, lG⟩ := nG
              go_wp2_with fail
              refine hQ2 _ _ (fun _ => S4.alloc S4.size _) ?_
              clear hQ2 Q2
              (try simp only [hG])
              clear hG
              have SG := S4.alloc S4.size (.cells (zA) 68)
              refine anyG_one (k := 5) (by kernel_rfl) rfl (by rfl) (fun Q2 hQ2 => ?_); go_wp2_with (go_at_call 59; refine (HOf.out _ A3 n3 c3 A4 n4 c4 (by first | exact M3.out | exact slice_keep M3.out (by go_grown)) (by first | exact L4.out | exact slice_keep L4.out (by go_grown)) (by rw [← M3.out.1]; exact HLn2.out) (by rw [← L4.out.1]; have := HPl.out; omega)).mono ?_; rintro e v5 ⟨rfl, hb5⟩; (try have bG := bG.call hb5)); refine hQ2 _ _ (fun _ => SG.trans (hb5.mono SG.size)) ?_; clear hQ2 Q2
              have S5 := SG.trans (hb5.mono SG.size)
              refine anyG_takes (is := [6, 7, 8]) (vs := [_, _, _]) (m := 2) (listed2 := #[true, true, true, true, true, true, true, true, true, true, false, false]) (a2 := ⟨#[_, _, _, _, _, _, _, _, _, _, _, _, _, _, _, _, _, _, _, _, _, _, _, _, _, _, _, _, _, _, _, _, _, _, _, _, _, _, _, _, _, _, _, _, _, _, _, _, _, _, _, _, _, _, _, _, _, _, _, _, _], _⟩) (by kernel_rfl) (fun j hj => by simp at hj) (by kernel_rfl) (fun _ _ _ _ _ h => h) (Ys.cons rfl (Or.inl ⟨by rfl, fun W1 hW1 => by first | rfl | (go_simp; done) | (go_simp; with_reducible rfl)⟩) (Ys.cons rfl (Or.inl ⟨by rfl, fun W1 hW1 => by first | rfl | (go_simp; done) | (go_simp; with_reducible rfl)⟩) (Ys.cons rfl (Or.inl ⟨by rfl, fun W1 hW1 => by first | rfl | (go_simp; done) | (go_simp; with_reducible rfl)⟩) (Ys.nil)))) (S5) (by rfl) (by rfl) ?_
              refine anyG_one (k := 10) (by kernel_rfl) rfl (by rfl) (fun Q2 hQ2 => ?_); go_wp2_with (refine wpList_store_row rfl 68 (.tmp 16) _ rfl _ _ _ _ rfl rfl (bG) (by rfl) (by kernel_rfl) (by simp [Value.oneCell']) ?_; intro uG huG hwG); refine hQ2 _ _ (fun _ => S5.trans (Only.below hwG lG S5.size)) ?_; clear hQ2 Q2
              have SsG := S5.trans (Only.below hwG lG S5.size)
              refine anyG_takes (is := [11]) (vs := [.int .i64 OE]) (m := 0) (listed2 := #[true, true, true, true, true, true, true, true, true, true, true, true]) (a2 := ⟨#[_, _, _, _, _, _, _, _, _, _, _, _, _, _, _, _, _, _, _, _, _, _, _, _, _, _, _, _, _, _, _, _, _, _, _, _, _, _, _, _, _, _, _, _, _, _, _, _, _, _, _, _, _, _, _, _, _, _, _, _, _], _⟩) (by kernel_rfl) (fun j hj => by simp at hj) (by kernel_rfl) (fun _ _ _ _ _ h => h) (Ys.cons rfl (Or.inl ⟨by rfl, fun W1 hW1 => by rfl⟩) (Ys.nil)) (SsG) (by rfl) (by rfl) ?_
              refine anyG_done (by kernel_rfl) ?_ _
              have G9 := Lib.hid huG
              have S9 := Lib.hid SsG
              have hlG := lG
              obtain ⟨hA, hB⟩ := HAd.out _ S9.out
              have HA9 := Lib.hid hA
              have HB9 := Lib.hid hB
              have I9 := Lib.hid (I2.out.call S9.out)
              clear hA hB
              have g0 := G9.out.cellv (i := 0) (v := .int .i64 X.tick) rfl
              have g1 := G9.out.cellv (i := 1) (v := .int .i64 X.load) rfl
              have g2 := G9.out.cellv (i := 2) (v := .int .i64 X.want) rfl
              have g3 := G9.out.cellv (i := 3) (v := .int .i64 X.repl) rfl
              have g4 := G9.out.cellv (i := 4) (v := .int .i64 X.why) rfl
              by_cases ho : OE = 0
              · have d2 : (OE == 0) = true := by simpa using ho
                by_cases hr : 1 ≤ rm ∧ rm ≤ 64
                · have d3 : decide (1 ≤ rm ∧ rm ≤ 64) = true := decide_eq_true hr
                  have HE := Lib.hid (H1.out ho hr)
                  clear ho hr H1 H2 H3
                  go_wp2_with (first
                    | (refine Blk.load rfl 68 (.tmp 16) rfl _ _ _ _ rfl G10.out Tryz.underlying68 rfl (by kernel_rfl) ?_)
                    | (refine Blk.load rfl 68 (.tmp 16) rfl _ _ _ _ rfl G9.out Tryz.underlying68 rfl (by kernel_rfl) ?_)
                    | (go_at_call 58; refine (history_Add ph FX st.past rm X _ HA9.out).mono ?_; intro e w6 hp; obtain ⟨rfl, hI6, hU6⟩ := HB9.out X _ _ hp; have I6 := Lib.hid hI6; have G10 := Lib.hid (G9.out.upd hU6 (fun hf => by have := HFl.out _ hf; omega)); clear hp hI6 hU6 g0 g1 g2 g3 g4)
                    | (at_builtin; refine wpList_push2 _ rfl (.tmp 55) (.tmp 57) 26 rfl w1.heap.size 68 _ 5 40 _ Tryz.underlying26 info_adv (by rfl) (by decide) (fun _ => rfl) adv_one (.slice A5 n5 c5) st.out rfl (I6.out.own.alloc _) ⟨_, 0, none⟩ 1 X rfl (blk_news (α := Adv) (vs := X.cells) (Blk.new _ _ _) rfl) HLo2.out (by decide) (by have := I6.out.size; simp; omega) ?_; intro v' w7 ho7 hu7 hw7; obtain ⟨A7, n7, c7, rfl, -, -⟩ := ho7.shape adv_len; have I7 := Lib.hid (FolIn.push (I6.out.call (by go_grown)) ho7 hu7 hw7); clear ho7 hu7 hw7))
                  go_roundw
                  case rel => exact ⟨k + 1, by omega, by go_num, by rw [HE.out]; exact I7.out⟩
                  case measure => simp [intOf]; omega
                · have d3 : decide (1 ≤ rm ∧ rm ≤ 64) = false := decide_eq_false hr
                  have HE := Lib.hid (H2.out ho hr)
                  clear ho hr H1 H2 H3
                  go_wp2_with (first
                    | (refine Blk.load rfl 68 (.tmp 16) rfl _ _ _ _ rfl G9.out Tryz.underlying68 rfl (by kernel_rfl) ?_)
                    | (go_at_call 58; refine (history_Add ph FX st.past rm X _ HA9.out).mono ?_; intro e w6 hp; obtain ⟨rfl, hI6, hU6⟩ := HB9.out X _ _ hp; have I6 := Lib.hid hI6; clear hp hI6 hU6))
                  go_roundw
                  case rel => exact ⟨k + 1, by omega, by go_num, by rw [HE.out]; exact I6.out⟩
                  case measure => simp [intOf]; omega
              · have d2 : (OE == 0) = false := by simpa using ho
                have HE := Lib.hid (H3.out ho)
                clear ho H1 H2 H3
                go_wp2_with fail
                go_roundw
                case rel => exact ⟨k + 1, by omega, by go_num, by rw [HE.out]; exact I9.out⟩
                case measure => simp [intOf]; omega
          ·
            skip
            have nG := new_at (S := S3) (zA) 68
            obtain ⟨G, hG, bG, lG⟩ := nG
            go_wp2_with fail
            refine hQ2 _ _ (fun _ => S3.alloc S3.size _) ?_
            clear hQ2 Q2
            (try simp only [hG])
            clear hG
            have SG := S3.alloc S3.size (.cells (zA) 68)
            refine anyG_one (k := 4) (by kernel_rfl) rfl (by rfl) (fun Q2 hQ2 => ?_); go_wp2_with (go_at_call 61; refine (history_List ph FH2 st.past rm _ (HH2.out.call SG)).mono ?_; rintro e v4 ⟨u4, rfl, ho4, hb4⟩; obtain ⟨A4, n4, c4, rfl, -, -⟩ := ho4.shape adv_len; have L4 := Lib.hid (ownA_is ho4); have M3 := Lib.hid (by first | exact slice_keep L3.out hb4 | exact slice_keep (slice_keep L3.out (by go_grown)) hb4); clear L3 ho4; (try have bG := bG.call hb4)); refine hQ2 _ _ (fun _ => SG.trans (hb4.mono SG.size)) ?_; clear hQ2 Q2
            have S4 := SG.trans (hb4.mono SG.size)
            refine anyG_one (k := 5) (by kernel_rfl) rfl (by rfl) (fun Q2 hQ2 => ?_); go_wp2_with (go_at_call 59; refine (HOf.out _ A3 n3 c3 A4 n4 c4 (by first | exact M3.out | exact slice_keep M3.out (by go_grown)) (by first | exact L4.out | exact slice_keep L4.out (by go_grown)) (by rw [← M3.out.1]; exact HLn2.out) (by rw [← L4.out.1]; have := HPl.out; omega)).mono ?_; rintro e v5 ⟨rfl, hb5⟩; (try have bG := bG.call hb5)); refine hQ2 _ _ (fun _ => S4.trans (hb5.mono S4.size)) ?_; clear hQ2 Q2
            have S5 := S4.trans (hb5.mono S4.size)
            refine anyG_takes (is := [6, 7, 8]) (vs := [_, _, _]) (m := 2) (listed2 := #[true, true, true, true, true, true, true, true, true, true, false, false]) (a2 := ⟨#[_, _, _, _, _, _, _, _, _, _, _, _, _, _, _, _, _, _, _, _, _, _, _, _, _, _, _, _, _, _, _, _, _, _, _, _, _, _, _, _, _, _, _, _, _, _, _, _, _, _, _, _, _, _, _, _, _, _, _, _, _], _⟩) (by kernel_rfl) (fun j hj => by simp at hj) (by kernel_rfl) (fun _ _ _ _ _ h => h) (Ys.cons rfl (Or.inl ⟨by rfl, fun W1 hW1 => by first | rfl | (go_simp; done) | (go_simp; with_reducible rfl)⟩) (Ys.cons rfl (Or.inl ⟨by rfl, fun W1 hW1 => by first | rfl | (go_simp; done) | (go_simp; with_reducible rfl)⟩) (Ys.cons rfl (Or.inl ⟨by rfl, fun W1 hW1 => by first | rfl | (go_simp; done) | (go_simp; with_reducible rfl)⟩) (Ys.nil)))) (S5) (by rfl) (by rfl) ?_
            refine anyG_one (k := 10) (by kernel_rfl) rfl (by rfl) (fun Q2 hQ2 => ?_); go_wp2_with (refine wpList_store_row rfl 68 (.tmp 16) _ rfl _ _ _ _ rfl rfl (bG) (by rfl) (by kernel_rfl) (by simp [Value.oneCell']) ?_; intro uG huG hwG); refine hQ2 _ _ (fun _ => S5.trans (Only.below hwG lG S5.size)) ?_; clear hQ2 Q2
            have SsG := S5.trans (Only.below hwG lG S5.size)
            refine anyG_takes (is := [11]) (vs := [.int .i64 OE]) (m := 0) (listed2 := #[true, true, true, true, true, true, true, true, true, true, true, true]) (a2 := ⟨#[_, _, _, _, _, _, _, _, _, _, _, _, _, _, _, _, _, _, _, _, _, _, _, _, _, _, _, _, _, _, _, _, _, _, _, _, _, _, _, _, _, _, _, _, _, _, _, _, _, _, _, _, _, _, _, _, _, _, _, _, _], _⟩) (by kernel_rfl) (fun j hj => by simp at hj) (by kernel_rfl) (fun _ _ _ _ _ h => h) (Ys.cons rfl (Or.inl ⟨by rfl, fun W1 hW1 => by rfl⟩) (Ys.nil)) (SsG) (by rfl) (by rfl) ?_
            refine anyG_done (by kernel_rfl) ?_ _
            have G9 := Lib.hid huG
            have S9 := Lib.hid SsG
            have hlG := lG
            obtain ⟨hA, hB⟩ := HAd.out _ S9.out
            have HA9 := Lib.hid hA
            have HB9 := Lib.hid hB
            have I9 := Lib.hid (I2.out.call S9.out)
            clear hA hB
            have g0 := G9.out.cellv (i := 0) (v := .int .i64 X.tick) rfl
            have g1 := G9.out.cellv (i := 1) (v := .int .i64 X.load) rfl
            have g2 := G9.out.cellv (i := 2) (v := .int .i64 X.want) rfl
            have g3 := G9.out.cellv (i := 3) (v := .int .i64 X.repl) rfl
            have g4 := G9.out.cellv (i := 4) (v := .int .i64 X.why) rfl
            by_cases ho : OE = 0
            · have d2 : (OE == 0) = true := by simpa using ho
              by_cases hr : 1 ≤ rm ∧ rm ≤ 64
              · have d3 : decide (1 ≤ rm ∧ rm ≤ 64) = true := decide_eq_true hr
                have HE := Lib.hid (H1.out ho hr)
                clear ho hr H1 H2 H3
                go_wp2_with (first
                  | (refine Blk.load rfl 68 (.tmp 16) rfl _ _ _ _ rfl G10.out Tryz.underlying68 rfl (by kernel_rfl) ?_)
                  | (refine Blk.load rfl 68 (.tmp 16) rfl _ _ _ _ rfl G9.out Tryz.underlying68 rfl (by kernel_rfl) ?_)
                  | (go_at_call 58; refine (history_Add ph FX st.past rm X _ HA9.out).mono ?_; intro e w6 hp; obtain ⟨rfl, hI6, hU6⟩ := HB9.out X _ _ hp; have I6 := Lib.hid hI6; have G10 := Lib.hid (G9.out.upd hU6 (fun hf => by have := HFl.out _ hf; omega)); clear hp hI6 hU6 g0 g1 g2 g3 g4)
                  | (at_builtin; refine wpList_push2 _ rfl (.tmp 55) (.tmp 57) 26 rfl w1.heap.size 68 _ 5 40 _ Tryz.underlying26 info_adv (by rfl) (by decide) (fun _ => rfl) adv_one (.slice A5 n5 c5) st.out rfl (I6.out.own.alloc _) ⟨_, 0, none⟩ 1 X rfl (blk_news (α := Adv) (vs := X.cells) (Blk.new _ _ _) rfl) HLo2.out (by decide) (by have := I6.out.size; simp; omega) ?_; intro v' w7 ho7 hu7 hw7; obtain ⟨A7, n7, c7, rfl, -, -⟩ := ho7.shape adv_len; have I7 := Lib.hid (FolIn.push (I6.out.call (by go_grown)) ho7 hu7 hw7); clear ho7 hu7 hw7))
                go_roundw
                case rel => exact ⟨k + 1, by omega, by go_num, by rw [HE.out]; exact I7.out⟩
                case measure => simp [intOf]; omega
              · have d3 : decide (1 ≤ rm ∧ rm ≤ 64) = false := decide_eq_false hr
                have HE := Lib.hid (H2.out ho hr)
                clear ho hr H1 H2 H3
                go_wp2_with (first
                  | (refine Blk.load rfl 68 (.tmp 16) rfl _ _ _ _ rfl G9.out Tryz.underlying68 rfl (by kernel_rfl) ?_)
                  | (go_at_call 58; refine (history_Add ph FX st.past rm X _ HA9.out).mono ?_; intro e w6 hp; obtain ⟨rfl, hI6, hU6⟩ := HB9.out X _ _ hp; have I6 := Lib.hid hI6; clear hp hI6 hU6))
                go_roundw
                case rel => exact ⟨k + 1, by omega, by go_num, by rw [HE.out]; exact I6.out⟩
                case measure => simp [intOf]; omega
            · have d2 : (OE == 0) = false := by simpa using ho
              have HE := Lib.hid (H3.out ho)
              clear ho H1 H2 H3
              go_wp2_with fail
              go_roundw
              case rel => exact ⟨k + 1, by omega, by go_num, by rw [HE.out]; exact I9.out⟩
              case measure => simp [intOf]; omega
        ·
          skip
          have nG := new_at (S := S0) (zA) 68
          obtain ⟨G, hG, bG, lG⟩ := nG
          go_wp2_with fail
          refine hQ2 _ _ (fun _ => S0.alloc S0.size _) ?_
          clear hQ2 Q2
          (try simp only [hG])
          clear hG
          have SG := S0.alloc S0.size (.cells (zA) 68)
          refine anyG_one (k := 2) (by kernel_rfl) rfl (by rfl) (fun Q2 hQ2 => ?_); go_wp2_with (go_at_call 60; refine (serv_List ps FS2 hh sm _ (HS2.out.call SG)).mono ?_; rintro e v3 ⟨A3, n3, c3, rfl, ho3, hb3⟩; have L3 := Lib.hid (ho3.is smp_len); clear ho3; (try have bG := bG.call hb3)); refine hQ2 _ _ (fun _ => SG.trans (hb3.mono SG.size)) ?_; clear hQ2 Q2
          have S3 := SG.trans (hb3.mono SG.size)
          refine anyG_one (k := 4) (by kernel_rfl) rfl (by rfl) (fun Q2 hQ2 => ?_); go_wp2_with (go_at_call 61; refine (history_List ph FH2 st.past rm _ (HH2.out.call S3)).mono ?_; rintro e v4 ⟨u4, rfl, ho4, hb4⟩; obtain ⟨A4, n4, c4, rfl, -, -⟩ := ho4.shape adv_len; have L4 := Lib.hid (ownA_is ho4); have M3 := Lib.hid (by first | exact slice_keep L3.out hb4 | exact slice_keep (slice_keep L3.out (by go_grown)) hb4); clear L3 ho4; (try have bG := bG.call hb4)); refine hQ2 _ _ (fun _ => S3.trans (hb4.mono S3.size)) ?_; clear hQ2 Q2
          have S4 := S3.trans (hb4.mono S3.size)
          refine anyG_one (k := 5) (by kernel_rfl) rfl (by rfl) (fun Q2 hQ2 => ?_); go_wp2_with (go_at_call 59; refine (HOf.out _ A3 n3 c3 A4 n4 c4 (by first | exact M3.out | exact slice_keep M3.out (by go_grown)) (by first | exact L4.out | exact slice_keep L4.out (by go_grown)) (by rw [← M3.out.1]; exact HLn2.out) (by rw [← L4.out.1]; have := HPl.out; omega)).mono ?_; rintro e v5 ⟨rfl, hb5⟩; (try have bG := bG.call hb5)); refine hQ2 _ _ (fun _ => S4.trans (hb5.mono S4.size)) ?_; clear hQ2 Q2
          have S5 := S4.trans (hb5.mono S4.size)
          refine anyG_takes (is := [6, 7, 8]) (vs := [_, _, _]) (m := 2) (listed2 := #[true, true, true, true, true, true, true, true, true, true, false, false]) (a2 := ⟨#[_, _, _, _, _, _, _, _, _, _, _, _, _, _, _, _, _, _, _, _, _, _, _, _, _, _, _, _, _, _, _, _, _, _, _, _, _, _, _, _, _, _, _, _, _, _, _, _, _, _, _, _, _, _, _, _, _, _, _, _, _], _⟩) (by kernel_rfl) (fun j hj => by simp at hj) (by kernel_rfl) (fun _ _ _ _ _ h => h) (Ys.cons rfl (Or.inl ⟨by rfl, fun W1 hW1 => by first | rfl | (go_simp; done) | (go_simp; with_reducible rfl)⟩) (Ys.cons rfl (Or.inl ⟨by rfl, fun W1 hW1 => by first | rfl | (go_simp; done) | (go_simp; with_reducible rfl)⟩) (Ys.cons rfl (Or.inl ⟨by rfl, fun W1 hW1 => by first | rfl | (go_simp; done) | (go_simp; with_reducible rfl)⟩) (Ys.nil)))) (S5) (by rfl) (by rfl) ?_
          refine anyG_one (k := 10) (by kernel_rfl) rfl (by rfl) (fun Q2 hQ2 => ?_); go_wp2_with (refine wpList_store_row rfl 68 (.tmp 16) _ rfl _ _ _ _ rfl rfl (bG) (by rfl) (by kernel_rfl) (by simp [Value.oneCell']) ?_; intro uG huG hwG); refine hQ2 _ _ (fun _ => S5.trans (Only.below hwG lG S5.size)) ?_; clear hQ2 Q2
          have SsG := S5.trans (Only.below hwG lG S5.size)
          refine anyG_takes (is := [11]) (vs := [.int .i64 OE]) (m := 0) (listed2 := #[true, true, true, true, true, true, true, true, true, true, true, true]) (a2 := ⟨#[_, _, _, _, _, _, _, _, _, _, _, _, _, _, _, _, _, _, _, _, _, _, _, _, _, _, _, _, _, _, _, _, _, _, _, _, _, _, _, _, _, _, _, _, _, _, _, _, _, _, _, _, _, _, _, _, _, _, _, _, _], _⟩) (by kernel_rfl) (fun j hj => by simp at hj) (by kernel_rfl) (fun _ _ _ _ _ h => h) (Ys.cons rfl (Or.inl ⟨by rfl, fun W1 hW1 => by rfl⟩) (Ys.nil)) (SsG) (by rfl) (by rfl) ?_
          refine anyG_done (by kernel_rfl) ?_ _
          have G9 := Lib.hid huG
          have S9 := Lib.hid SsG
          have hlG := lG
          obtain ⟨hA, hB⟩ := HAd.out _ S9.out
          have HA9 := Lib.hid hA
          have HB9 := Lib.hid hB
          have I9 := Lib.hid (I2.out.call S9.out)
          clear hA hB
          have g0 := G9.out.cellv (i := 0) (v := .int .i64 X.tick) rfl
          have g1 := G9.out.cellv (i := 1) (v := .int .i64 X.load) rfl
          have g2 := G9.out.cellv (i := 2) (v := .int .i64 X.want) rfl
          have g3 := G9.out.cellv (i := 3) (v := .int .i64 X.repl) rfl
          have g4 := G9.out.cellv (i := 4) (v := .int .i64 X.why) rfl
          by_cases ho : OE = 0
          · have d2 : (OE == 0) = true := by simpa using ho
            by_cases hr : 1 ≤ rm ∧ rm ≤ 64
            · have d3 : decide (1 ≤ rm ∧ rm ≤ 64) = true := decide_eq_true hr
              have HE := Lib.hid (H1.out ho hr)
              clear ho hr H1 H2 H3
              go_wp2_with (first
                | (refine Blk.load rfl 68 (.tmp 16) rfl _ _ _ _ rfl G10.out Tryz.underlying68 rfl (by kernel_rfl) ?_)
                | (refine Blk.load rfl 68 (.tmp 16) rfl _ _ _ _ rfl G9.out Tryz.underlying68 rfl (by kernel_rfl) ?_)
                | (go_at_call 58; refine (history_Add ph FX st.past rm X _ HA9.out).mono ?_; intro e w6 hp; obtain ⟨rfl, hI6, hU6⟩ := HB9.out X _ _ hp; have I6 := Lib.hid hI6; have G10 := Lib.hid (G9.out.upd hU6 (fun hf => by have := HFl.out _ hf; omega)); clear hp hI6 hU6 g0 g1 g2 g3 g4)
                | (at_builtin; refine wpList_push2 _ rfl (.tmp 55) (.tmp 57) 26 rfl w1.heap.size 68 _ 5 40 _ Tryz.underlying26 info_adv (by rfl) (by decide) (fun _ => rfl) adv_one (.slice A5 n5 c5) st.out rfl (I6.out.own.alloc _) ⟨_, 0, none⟩ 1 X rfl (blk_news (α := Adv) (vs := X.cells) (Blk.new _ _ _) rfl) HLo2.out (by decide) (by have := I6.out.size; simp; omega) ?_; intro v' w7 ho7 hu7 hw7; obtain ⟨A7, n7, c7, rfl, -, -⟩ := ho7.shape adv_len; have I7 := Lib.hid (FolIn.push (I6.out.call (by go_grown)) ho7 hu7 hw7); clear ho7 hu7 hw7))
              go_roundw
              case rel => exact ⟨k + 1, by omega, by go_num, by rw [HE.out]; exact I7.out⟩
              case measure => simp [intOf]; omega
            · have d3 : decide (1 ≤ rm ∧ rm ≤ 64) = false := decide_eq_false hr
              have HE := Lib.hid (H2.out ho hr)
              clear ho hr H1 H2 H3
              go_wp2_with (first
                | (refine Blk.load rfl 68 (.tmp 16) rfl _ _ _ _ rfl G9.out Tryz.underlying68 rfl (by kernel_rfl) ?_)
                | (go_at_call 58; refine (history_Add ph FX st.past rm X _ HA9.out).mono ?_; intro e w6 hp; obtain ⟨rfl, hI6, hU6⟩ := HB9.out X _ _ hp; have I6 := Lib.hid hI6; clear hp hI6 hU6))
              go_roundw
              case rel => exact ⟨k + 1, by omega, by go_num, by rw [HE.out]; exact I6.out⟩
              case measure => simp [intOf]; omega
          · have d2 : (OE == 0) = false := by simpa using ho
            have HE := Lib.hid (H3.out ho)
            clear ho H1 H2 H3
            go_wp2_with fail
            go_roundw
            case rel => exact ⟨k + 1, by omega, by go_num, by rw [HE.out]; exact I9.out⟩
            case measure => simp [intOf]; omega
      · have d1 : (errr sm x != 0) = true := by simpa using he
        have HE := Lib.hid he
        clear he
        go_wp2_with (go_at_call 57; refine (serv_Put ps FS st.smps sm x _ HS1.out).mono ?_; intro e w2 hp; obtain ⟨rfl, hI⟩ := HPt.out x _ _ hp; have I2 := Lib.hid hI; clear hp hI)
        go_roundw
        case rel => exact ⟨k + 1, by omega, by go_num, by rw [HN1.out, fstep_no HE.out]; have := I2.out; rw [putr_no HE.out] at this; exact this⟩
        case measure => simp [intOf]; omega
    · have hE : l.take k = l := List.take_of_length_le (by have := HL.out; omega)
      rw [hE] at HI
      go_wp2
      go_ret
      exact ⟨_, _, _, rfl, HI.out.own.mono E1.out.size, E1.out.trans (HI.out.bel.mono E1.out.size)⟩
end Go.Proofs.YtjodpffdlggjgaaGreat
