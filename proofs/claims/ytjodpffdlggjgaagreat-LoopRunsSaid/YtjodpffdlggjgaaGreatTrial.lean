/- Lists of api.Advice: how often they change and turn. -/
import Derived.Test.YtjodpffdlggjgaaGreatSame
namespace Go.Proofs.YtjodpffdlggjgaaGreat
open Go.RowKit
set_option linter.unusedSimpArgs false
set_option linter.unusedVariables false
set_option maxHeartbeats 1000000

structure Adv where
  tick : Int
  load : Int
  want : Int
  repl : Int
  why : Int
deriving DecidableEq
def Adv.cells (a : Adv) : List Value := [.int .i64 a.tick, .int .i64 a.load, .int .i64 a.want, .int .i64 a.repl, .int .i64 a.why]
def Adv.good (a : Adv) : Prop := I64 a.tick ∧ I64 a.load ∧ I64 a.want ∧ I64 a.repl ∧ I64 a.why
abbrev AdvsAre (w : World) (A : Option Addr) (len cap : Nat) (l : List Adv) : Prop := SliceIs w 5 Adv.cells A len cap l
theorem AdvsAre.at_ {w : World} {A : Option Addr} {len cap : Nat} {l : List Adv} (h : AdvsAre w A len cap l) {k : Nat} (hk : k < len) :
    ∃ (b off : Nat) (x : Adv), A = some ⟨b, off, none⟩ ∧ l[k]? = some x ∧ b < w.heap.size ∧ w.cell? ⟨b, off + k * 5, none⟩ = some (.int .i64 x.tick) ∧ w.cell? ⟨b, off + k * 5 + 1, none⟩ = some (.int .i64 x.load) ∧ w.cell? ⟨b, off + k * 5 + 2, none⟩ = some (.int .i64 x.want) ∧ w.cell? ⟨b, off + k * 5 + 3, none⟩ = some (.int .i64 x.repl) ∧ w.cell? ⟨b, off + k * 5 + 4, none⟩ = some (.int .i64 x.why) := by
  obtain ⟨b, off, x, h1, h2, h3, h4⟩ := SliceIs.at_ h hk
  exact ⟨b, off, x, h1, h2, h3, h4 0 _ rfl, by rw [Nat.add_assoc]; exact h4 1 _ rfl, by rw [Nat.add_assoc]; exact h4 2 _ rfl, by rw [Nat.add_assoc]; exact h4 3 _ rfl, by rw [Nat.add_assoc]; exact h4 4 _ rfl⟩

/-- Among the first k numbers of r: how often one differs from the one before. -/
def chq (r : Nat → Int) : Nat → Nat
  | 0 => 0
  | 1 => 0
  | k + 2 => chq r (k + 1) + if r (k + 1) = r k then 0 else 1
theorem chq_le (r : Nat → Int) (k : Nat) : chq r k ≤ k := by
  match k with
  | 0 => simp [chq]
  | 1 => simp [chq]
  | k + 2 => have := chq_le r (k + 1); unfold chq; split <;> omega
def replAt (l : List Adv) (i : Nat) : Int := (l[i]?.map Adv.repl).getD 0
theorem replAt_eq {l : List Adv} {i : Nat} {x : Adv} (h : l[i]? = some x) : replAt l i = x.repl := by unfold replAt; rw [h]; rfl
theorem history_Changes (A : Option Addr) (len cap : Nat) (l : List Adv) (w : World) (hs : AdvsAre w A len cap l) (hn : len ≤ 1000) :
    Calls Tryz.prog 53 #[.slice A len cap] w fun e w' => e = .returned (.int .i64 (chq (replAt l) len : Nat)) ∧ Below w.heap.size w w' := by
  have HS := Lib.hid hs
  clear hs
  go_enter Tryz.func53, Tryz.ntmps53
  go_wp2
  go_loopw [3, 4] (fun n i wr => ∃ k : Nat, (k = 0 ∨ k < len) ∧ i = .int .i64 ((k + 1 : Nat) : Int) ∧ n = .int .i64 (chq (replAt l) (k + 1) : Nat) ∧ Below w.heap.size w wr) (fun _ i _ => len - (intOf i).toNat)
  case atStart => exact ⟨0, .inl rfl, rfl, rfl, Below.refl _ _⟩
  case round =>
    obtain ⟨k, hk, rfl, rfl, hbel⟩ := hrel
    by_cases hlt : k + 1 < len
    · obtain ⟨b, off, x, rfl, hx, hb, t0, t1, t2, t3, t4⟩ := HS.out.at_ (show k < len by omega)
      obtain ⟨b2, off2, y, hab, hy, hb2, s0, s1, s2, s3, s4⟩ := HS.out.at_ hlt
      cases hab
      have HX := Lib.hid (replAt_eq hx)
      have HY := Lib.hid (replAt_eq hy)
      have kt := (hbel.cell (p := ⟨b, off + k * 5 + 3, none⟩) hb).trans t3
      have ks := (hbel.cell (p := ⟨b, off + (k + 1) * 5 + 3, none⟩) hb).trans s3
      have hkl : (k : Int) < (len : Int) := by omega
      have hki : (k : Int) + 1 < (len : Int) := by omega
      clear hx hy hb hb2 t0 t1 t2 t3 t4 s0 s1 s2 s3 s4
      have hle := chq_le (replAt l) (k + 1)
      have HC := Lib.hid (show chq (replAt l) (k + 2) = chq (replAt l) (k + 1) + if replAt l (k + 1) = replAt l k then 0 else 1 from rfl)
      generalize chq (replAt l) (k + 1) = c at *
      by_cases hxy : y.repl = x.repl
      · have d : (y.repl != x.repl) = false := by simpa using hxy
        have HC2 := Lib.hid (show chq (replAt l) (k + 2) = c by rw [HC.out, HX.out, HY.out, if_pos hxy]; rfl)
        clear hxy
        go_wp2
        go_quiet (fail)
        go_wp2
        go_roundw
        case rel => exact ⟨k + 1, .inr hlt, by go_num, by rw [HC2.out], below_drewN hbel nq⟩
        case measure => simp [intOf]; omega
      · have d : (y.repl != x.repl) = true := by simpa using hxy
        have HC2 := Lib.hid (show chq (replAt l) (k + 2) = c + 1 by rw [HC.out, HX.out, HY.out, if_neg hxy])
        clear hxy
        go_wp2
        go_quiet (fail)
        go_wp2
        go_roundw
        case rel => exact ⟨k + 1, .inr hlt, by go_num, by rw [HC2.out]; go_num, below_drewN hbel nq⟩
        case measure => simp [intOf]; omega
    · go_wp2
      go_ret
      refine ⟨?_, hbel⟩
      rcases hk with rfl | hk
      · rcases (show len = 0 ∨ len = 1 by omega) with rfl | rfl <;> rfl
      · rw [show len = k + 1 by omega]; rfl
end Go.Proofs.YtjodpffdlggjgaaGreat
