/- Several operations of a region that draws its order, each of which reads only, taken first at once. -/
import Derived.Test.YtkjmacdekfbfhaaRegB
namespace Go.Proofs.Ytkjmacdekfbfhaa
open Go.RowKit
set_option linter.unusedVariables false
section
variable {P : Program} {ops : Array Oper} {Q : Exit → Act → World → Prop} {md : Region.Mode}
def takesOk (md : Region.Mode) (ops : Array Oper) (late : Nat → Bool) : List Nat → Array Bool → Bool
  | [], _ => true
  | i :: is, listed => (Region.free md ops listed i && (Region.ready md ops listed).contains i && lateOk md ops i late && !late i && (List.range ops.size).all (fun j => !late j || !listed.getD j false)) && takesOk md ops late is (listed.setIfInBounds i true)
def marked : List Nat → Array Bool → Array Bool
  | [], l => l
  | i :: is, l => marked is (l.setIfInBounds i true)
def behind (ops : Array Oper) : List Nat → List Value → Act → Act
  | i :: is, v :: vs, a => match ops[i]? with
    | some o => behind ops is vs (a.put o.dst v)
    | none => a
  | _, _, a => a
def Ys (P : Program) (ops : Array Oper) (S : World → Prop) : List Nat → List Value → Act → Prop
  | [], [], _ => True
  | i :: is, v :: vs, a => ∃ o, ops[i]? = some o ∧ YieldsIf P ops S o v a ∧ Ys P ops S is vs (a.put o.dst v)
  | _, _, _ => False
theorem Ys.nil {S : World → Prop} {a : Act} : Ys P ops S [] [] a := trivial
theorem Ys.cons {S : World → Prop} {i : Nat} {is : List Nat} {v : Value} {vs : List Value} {a : Act} {o : Oper} (ho : ops[i]? = some o) (hy : YieldsIf P ops S o v a) (h : Ys P ops S is vs (a.put o.dst v)) : Ys P ops S (i :: is) (v :: vs) a := ⟨o, ho, hy, h⟩
theorem anyG_takes_go {late : Nat → Bool} {S : World → Prop} (hs : Region.noSelect ops = true) (hlt : ∀ j, late j = true → j < ops.size) (hQ : ∀ c a d v w, Q (.panic c) (Act.put a (some d) v) w → Q (.panic c) a w) (m : Nat) {w : World} (hS : S w) :
    ∀ (is : List Nat) (vs : List Value) (listed : Array Bool) (a : Act), takesOk md ops late is listed = true → Ys P ops S is vs a →
      anyG P md ops Q late S m (marked is listed) (behind ops is vs a) w → anyG P md ops Q late S (m + is.length) listed a w
  | [], [], listed, a, _, _, h => h
  | i :: is, v :: vs, listed, a, hok, hy, h => by
    obtain ⟨o, ho, hy1, hy2⟩ := hy
    simp only [takesOk, Bool.and_eq_true] at hok
    obtain ⟨⟨⟨⟨⟨h1, h2⟩, h3⟩, h4⟩, h5⟩, h6⟩ := hok
    rw [List.length_cons, ← Nat.add_assoc]
    refine anyG_take ho hs h1 h2 h3 (by simpa using h4) h5 hlt (fun c a w hh => by
      cases hd : o.dst with
      | none => rw [hd] at hh; exact hh
      | some d => rw [hd] at hh; exact hQ c a d _ w hh) hy1 hS ?_
    refine anyG_takes_go hs hlt hQ m hS is vs _ _ h6 hy2 ?_
    simp only [marked, behind, ho] at h
    exact h
  | [], _ :: _, _, _, _, hy, _ => hy.elim
  | _ :: _, [], _, _, _, hy, _ => hy.elim
theorem anyG_takes {late : Nat → Bool} {S : World → Prop} {is : List Nat} {vs : List Value} {m : Nat} {listed listed2 : Array Bool} {a a2 : Act} {w : World} (hs : Region.noSelect ops = true) (hlt : ∀ j, late j = true → j < ops.size) (hok : takesOk md ops late is listed = true)
    (hQ : ∀ c a d v w, Q (.panic c) (Act.put a (some d) v) w → Q (.panic c) a w) (hy : Ys P ops S is vs a) (hS : S w) (hl : marked is listed = listed2) (ha : behind ops is vs a = a2) (h : anyG P md ops Q late S m listed2 a2 w) : anyG P md ops Q late S (m + is.length) listed a w := by
  subst hl ha
  exact anyG_takes_go hs hlt hQ m hS is vs listed a hok hy h
end
end Go.Proofs.Ytkjmacdekfbfhaa
