/- Handles: acts, and the state where only the list's blocks are written. -/
import Derived.Test.YtkjmacdekfbfhaaSame20
namespace Go.Proofs.Ytkjmacdekfbfhaa
open Go.RowKit
set_option linter.unusedSimpArgs false
set_option linter.unusedVariables false
structure HAct where
  kind : Int
  n : Int
def HAct.cells (a : HAct) : List Value := [.int .i64 a.kind, .int .i64 a.n]
def HAct.good (a : HAct) : Prop := I64 a.kind ∧ I64 a.n
abbrev HActsAre (w : World) (A : Option Addr) (len cap : Nat) (l : List HAct) : Prop := SliceIs w 2 HAct.cells A len cap l
theorem HActsAre.at_ {w : World} {A : Option Addr} {len cap : Nat} {l : List HAct} (h : HActsAre w A len cap l) {k : Nat} (hk : k < len) :
    ∃ (b off : Nat) (x : HAct), A = some ⟨b, off, none⟩ ∧ l[k]? = some x ∧ b < w.heap.size ∧ w.cell? ⟨b, off + k * 2, none⟩ = some (.int .i64 x.kind) ∧ w.cell? ⟨b, off + k * 2 + 1, none⟩ = some (.int .i64 x.n) := by
  obtain ⟨b, off, x, h1, h2, h3, h4⟩ := SliceIs.at_ h hk
  exact ⟨b, off, x, h1, h2, h3, h4 0 _ rfl, by rw [Nat.add_assoc]; exact h4 1 _ rfl⟩
theorem dec_hact : ∀ vs : List Value, AllOk [.int .i64, .int .i64] vs → ∃ x : HAct, x.cells = vs ∧ x.good := by
  rintro _ ⟨_, _, rfl, ⟨a, rfl, wa⟩, _, _, rfl, ⟨b, rfl, wb⟩, h⟩
  cases h
  exact ⟨⟨a, b⟩, rfl, I64_of_wf wa, I64_of_wf wb⟩
theorem HSt.upd {S : Nat → Prop} {B : Nat} {w0 w w' : World} {g b : Nat} {fp : Int → Option Nat} {ks E : List Int} (h : HSt w0 w g b fp ks E) (hu : Upd S w w') (hS : ∀ k, S k → B ≤ k) (hg : g < B) (hb : b < B) (hB : B ≤ w.heap.size)
    (hc : ∀ k cs, S k → ¬ Blk w k tCut cs) : HSt w0 w' g b fp ks E := by
  have hbl : Below B w w' := hu.below hS hB
  refine ⟨h.tab.below hbl hg hb, h.fof, fun n gn hn => ?_, h.bel.trans (hbl.mono (by have := h.gw; omega)), h.gw, h.bw⟩
  obtain ⟨e, h1, h2, h3⟩ := h.cuts n gn hn
  exact ⟨e, h1, h2.upd hu (fun hs => hc gn _ hs h2), h3⟩
/-- A block has one type. -/
theorem Blk.ne_type {w : World} {k : Nat} {t t' : TypeId} {cs cs' : Array Value} (h : Blk w k t cs) (ht : t ≠ t') : ¬ Blk w k t' cs' := fun h' => by
  have e := Eq.trans (Eq.symm h) h'
  injection e with e
  injection e with _ e2
  exact ht e2
end Go.Proofs.Ytkjmacdekfbfhaa
