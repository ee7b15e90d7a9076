/- Several texts in one. -/
import Derived.Test.YtjodpffdlggjgaaSer5
import Derived.Test.YtjodpffdlggjgaaSer4
import Derived.Test.YtjodpffdlggjgaaRegT
import Derived.Test.YtjodpffdlggjgaaRegL
import Derived.Test.YtjodpffdlggjgaaKDecideFollows3
/- Package series: Put, Of; the reference's Of. -/
namespace Go.Proofs.Ytjodpffdlggjgaa
open Go.RowKit
set_option linter.unusedSimpArgs false
set_option linter.unusedVariables false
set_option maxHeartbeats 4000000
set_option maxRecDepth 100000
theorem putL_len_of {l : List Smp} (hs : Srt l) (x : Smp) : ((∃ y, l[placeq l x.tick]? = some y ∧ y.tick = x.tick) ∧ (putL l x).length = l.length) ∨ ((∀ y, l[placeq l x.tick]? = some y → y.tick ≠ x.tick) ∧ (putL l x).length = l.length + 1) := by
  by_cases h : ∃ y, l[placeq l x.tick]? = some y ∧ y.tick = x.tick
  · obtain ⟨y, h1, h2⟩ := h
    exact .inl ⟨⟨y, h1, h2⟩, by rw [← put_set hs h1 h2, List.length_set]⟩
  · have h2 : ∀ y, l[placeq l x.tick]? = some y → y.tick ≠ x.tick := fun y h1 h3 => h ⟨y, h1, h3⟩
    have := place_le l x.tick
    exact .inr ⟨h2, by rw [← put_ins hs h2]; simp; omega⟩
theorem series_Put (g : Nat) (v : Value) (l : List Smp) (room : Nat) (x : Smp) (w : World) (h : SerAt w g v l room) (hs : Srt l) (hlr : l.length ≤ room) (h1 : 1 ≤ room) (h2 : room ≤ 10000) (he : serErr x.tick x.value = 0) :
    Calls Try.prog 19 #[.pointer (some ⟨g, 0, none⟩), .int .i64 x.tick, .int .i64 x.value] w (SerPost g v (putq l room x) room w (.int .i64 0)) := by
  rcases putL_len_of hs x with ⟨⟨y, hy, hyt⟩, hl⟩ | ⟨hy, hl⟩
  · have e : putq l room x = l.set (placeq l x.tick) x := by
      unfold putq
      rw [if_neg (by omega), put_set hs hy hyt]
    rw [e]
    exact series_Put_set g v l room x.tick x.value y w h hs (by omega) he (by omega) hy hyt
  · have e : putq l room x = insq l room x.tick x.value := by
      unfold putq insq
      rw [hl]
      show _ = if (room : Int).toNat < l.length + 1 then (l.take (placeq l x.tick) ++ x :: l.drop (placeq l x.tick)).drop 1 else l.take (placeq l x.tick) ++ x :: l.drop (placeq l x.tick)
      rw [put_ins hs hy, Int.toNat_natCast]
    rw [e]
    exact series_Put_ins g v l room x.tick x.value w h hs (by omega) he (by omega) (by simpa using hlr) hy
theorem SerPost.same {g : Nat} {v : Value} {l : List Smp} {room : Int} {w : World} {ret : Value} (h : SerAt w g v l room) : SerPost g v l room w ret (.returned ret) w := ⟨v, rfl, h, Upd.refl _ _, fun _ hk => .inl hk⟩
/-- Put of whatever sample. -/
theorem series_Putv (g : Nat) (v : Value) (l : List Smp) (room : Nat) (x : Smp) (w : World) (h : SerAt w g v l room) (hs : Srt l) (hlr : l.length ≤ room) (h1 : 1 ≤ room) (h2 : room ≤ 10000) :
    Calls Try.prog 19 #[.pointer (some ⟨g, 0, none⟩), .int .i64 x.tick, .int .i64 x.value] w (SerPost g v (putv l room x) room w (.int .i64 (serErr x.tick x.value))) := by
  by_cases he : serErr x.tick x.value = 0
  · have := series_Put g v l room x w h hs hlr h1 h2 he
    unfold putv
    rw [if_pos he, he]
    exact this
  · unfold putv
    rw [if_neg he]
    refine (series_Put_bad (some ⟨g, 0, none⟩) x.tick x.value _ w he rfl).mono ?_
    rintro e w' ⟨rfl, rfl⟩
    exact SerPost.same h
theorem series_Putv_nil (x : Smp) (w : World) :
    Calls Try.prog 19 #[.pointer none, .int .i64 x.tick, .int .i64 x.value] w fun e w' => e = .returned (.int .i64 (if serErr x.tick x.value = 0 then 5 else serErr x.tick x.value)) ∧ w = w' := by
  by_cases he : serErr x.tick x.value = 0
  · rw [if_pos he]; exact series_Put_nil x.tick x.value w he
  · rw [if_neg he]; exact series_Put_bad none x.tick x.value _ w he rfl
theorem srt_putv {l : List Smp} (hs : Srt l) (room : Nat) (x : Smp) : Srt (putv l room x) := by
  unfold putv; split
  · exact srt_putq hs room x
  · exact hs
theorem len_putv {l : List Smp} {room : Nat} (h : l.length ≤ room) (h1 : 1 ≤ room) (x : Smp) : (putv l room x).length ≤ room := by
  unfold putv; split
  · exact len_putq h h1 x
  · exact h
theorem good_putv {l : List Smp} (h : ∀ y ∈ l, y.good) {x : Smp} (hx : x.good) (room : Nat) : ∀ y ∈ putv l room x, y.good := by
  unfold putv; split
  · exact good_putq h hx room
  · exact h
theorem serq_next {l : List Smp} {k : Nat} {x : Smp} (room : Nat) (h : l[k]? = some x) : serq room (l.take (k + 1)) = putv (serq room (l.take k)) room x := by
  unfold serq; rw [take_snoc2 h, List.foldl_append]; rfl
theorem fold_all {P : List Smp → Prop} {room : Nat} (hp : ∀ a x, P a → P (putv a room x)) : ∀ (l a : List Smp), P a → P (l.foldl (fun a x => putv a room x) a)
  | [], a, h => h
  | x :: l, a, h => fold_all hp l _ (hp a x h)
theorem srt_serq (room : Nat) (l : List Smp) : Srt (serq room l) := fold_all (P := Srt) (fun a x h => srt_putv h room x) l [] List.Pairwise.nil
theorem len_serq {room : Nat} (h1 : 1 ≤ room) (l : List Smp) : (serq room l).length ≤ room := fold_all (P := fun a => a.length ≤ room) (fun a x h => len_putv h h1 x) l [] (Nat.zero_le _)
theorem good_serq (room : Nat) {l : List Smp} (hg : ∀ y ∈ l, y.good) : ∀ y ∈ serq room l, y.good := by
  have key : ∀ (l a : List Smp), (∀ y ∈ l, y.good) → (∀ y ∈ a, y.good) → ∀ y ∈ l.foldl (fun a x => putv a room x) a, y.good := by
    intro l
    induction l with
    | nil => intro a _ h; exact h
    | cons x l ih => intro a hl ha; exact ih _ (fun y hy => hl y (by simp [hy])) (good_putv ha (hl x (by simp)) room)
  exact key l [] hg (fun y hy => by simp at hy)
/-- A series of the call's own. -/
def SerIn (B : Nat) (w wr : World) (g : Nat) (v : Value) (l : List Smp) (room : Int) : Prop := SerAt wr g v l room ∧ (∀ k, foot g v k → B ≤ k) ∧ Below B w wr ∧ B ≤ wr.heap.size
theorem SerIn.call {B : Nat} {w wr w' : World} {g : Nat} {v : Value} {l : List Smp} {room : Int} (h : SerIn B w wr g v l room) (hb : Below wr.heap.size wr w') : SerIn B w w' g v l room :=
  ⟨h.1.call hb, h.2.1, h.2.2.1.trans (hb.mono h.2.2.2), Nat.le_trans h.2.2.2 hb.size⟩
theorem SerIn.post {B : Nat} {w wr w' : World} {g : Nat} {v : Value} {l l' : List Smp} {room : Int} {ret : Value} {e : Ending} (h : SerIn B w wr g v l room) (hp : SerPost g v l' room wr ret e w') : e = .returned ret ∧ ∃ v', SerIn B w w' g v' l' room := by
  obtain ⟨v', he, h1, h2, h3⟩ := hp
  refine ⟨he, v', h1, fun k hk => (h3 k hk).elim (fun hk => h.2.1 k hk) (fun hk => Nat.le_trans h.2.2.2 hk), h.2.2.1.trans (h2.below h.2.1 h.2.2.2), Nat.le_trans h.2.2.2 h2.size⟩
theorem series_Of_nil (room : Int) (A : Option Addr) (len cap : Nat) (l : List Smp) (w : World) (hs : SmpsAre w A len cap l) (hn : len ≤ 10000) (hr : room < 1 ∨ 256 < room) :
    Calls Try.prog 23 #[.int .i64 room, .slice A len cap] w fun e w' => e = .returned (.pointer none) ∧ Below w.heap.size w w' := by
  have HS := Lib.hid hs
  have HC := Lib.hid (fun w => series_New_no room w hr)
  clear hs hr
  go_enter Try.func23, Try.ntmps23
  go_wp2_with (go_at_call 15; refine (HC.out _).mono ?_; rintro e w1 ⟨rfl, rfl⟩)
  go_loopw [12] (fun i wr => ∃ k : Nat, k ≤ len ∧ i = .int .i64 k ∧ Below w.heap.size w wr) (fun i _ => len - (intOf i).toNat)
  case atStart => exact ⟨0, Nat.zero_le _, rfl, Below.refl _ _⟩
  case round =>
    obtain ⟨k, hk, rfl, hbel⟩ := hrel
    by_cases hlt : k < len
    · obtain ⟨b, off, x, rfl, hx, hb, t0, t1⟩ := HS.out.at_ hlt
      have kt0 := (hbel.cell (p := ⟨b, off + k * 2, none⟩) hb).trans t0
      have kt1 := (hbel.cell (p := ⟨b, off + k * 2 + 1, none⟩) hb).trans t1
      have hki : (k : Int) < (len : Int) := by omega
      have HB := Lib.hid hbel
      have HP := Lib.hid (fun w => series_Putv_nil x w)
      clear hx hb t0 t1 hbel
      go_wp2_with (go_at_call 19; refine (HP.out _).mono ?_; rintro e w1 ⟨rfl, rfl⟩)
      go_roundw
      case rel => exact ⟨k + 1, by omega, by go_num, HB.out.alloc HB.out.size _⟩
      case measure => simp [intOf]; omega
    · have HB := Lib.hid hbel
      clear hbel
      go_wp2
      go_ret
      exact ⟨rfl, HB.out⟩
theorem SerIn.new (w : World) (room : Int) : SerIn w.heap.size w (w.alloc (.cells #[.slice none 0 0, .int .i64 room] 92)) w.heap.size (.slice none 0 0) [] room :=
  ⟨SerAt.new w room, fun k hk => by
    rcases hk with rfl | hk
    · exact Nat.le_refl _
    · simp [Value.ownBlock] at hk, by go_grown, by simp⟩
def OfS (w : World) (l : List Smp) (room : Int) (e : Ending) (w' : World) : Prop := ∃ g v, e = .returned (.pointer (some ⟨g, 0, none⟩)) ∧ SerIn w.heap.size w w' g v l room
theorem series_Of (room : Nat) (A : Option Addr) (len cap : Nat) (l : List Smp) (w : World) (hs : SmpsAre w A len cap l) (hn : len ≤ 10000) (h1 : 1 ≤ room) (h2 : room ≤ 256) :
    Calls Try.prog 23 #[.int .i64 room, .slice A len cap] w (OfS w (serq room l) room) := by
  have HS := Lib.hid hs
  have HL := Lib.hid hs.1
  have HC := Lib.hid (fun w => series_New room w (by omega) (by omega))
  have HP := Lib.hid (fun g v l x w h hs hlr => series_Putv g v l room x w h hs hlr h1 (by omega))
  have HLn := Lib.hid (fun k => len_serq h1 (l.take k))
  clear hs
  go_enter Try.func23, Try.ntmps23
  go_wp2_with (go_at_call 15; refine (HC.out _).mono ?_; rintro e w1 ⟨rfl, rfl⟩)
  go_loopw [12] (fun i wr => ∃ k : Nat, ∃ v : Value, k ≤ len ∧ i = .int .i64 k ∧ SerIn w.heap.size w wr w.heap.size v (serq room (l.take k)) room) (fun i _ => len - (intOf i).toNat)
  case atStart => exact ⟨0, _, Nat.zero_le _, rfl, SerIn.new w room⟩
  case round =>
    obtain ⟨k, v, hk, rfl, hin⟩ := hrel
    have HI := Lib.hid hin
    clear hin
    by_cases hlt : k < len
    · obtain ⟨b, off, x, rfl, hx, hb, t0, t1⟩ := HS.out.at_ hlt
      have kt0 := (HI.out.2.2.1.cell (p := ⟨b, off + k * 2, none⟩) hb).trans t0
      have kt1 := (HI.out.2.2.1.cell (p := ⟨b, off + k * 2 + 1, none⟩) hb).trans t1
      have hki : (k : Int) < (len : Int) := by omega
      have HN := Lib.hid (serq_next room hx)
      have I2 := Lib.hid (HI.out.call (w' := wr.alloc (.cells #[.int .i64 x.tick, .int .i64 x.value] 35)) ((Below.refl _ wr).alloc (Nat.le_refl _) _))
      clear hx hb t0 t1
      go_wp2_with (go_at_call 19; refine (HP.out w.heap.size v _ x _ I2.out.1 (srt_serq _ _) (HLn.out k)).mono ?_; intro e w1 hp; obtain ⟨rfl, v', hi⟩ := I2.out.post hp; have I3 := Lib.hid hi; clear hi hp)
      go_roundw
      case rel => exact ⟨k + 1, v', by omega, by go_num, by rw [HN.out]; exact I3.out⟩
      case measure => simp [intOf]; omega
    · have hE : l.take k = l := List.take_of_length_le (by have := HL.out; omega)
      rw [hE] at HI
      clear hE
      go_wp2
      go_ret
      exact ⟨_, v, rfl, HI.out⟩
theorem ref08_Of (room : Nat) (A : Option Addr) (len cap : Nat) (l : List Smp) (w : World) (hs : SmpsAre w A len cap l) (hn : len ≤ 10000) (h1 : 1 ≤ room) (h2 : room ≤ 256) :
    Calls Try.prog 27 #[.int .i64 room, .slice A len cap] w (PutS w (serq room l)) := by
  have HS := Lib.hid hs
  have HL := Lib.hid hs.1
  have HLn := Lib.hid (fun k => len_serq h1 (l.take k))
  have H2 := Lib.hid h2
  clear hs
  go_enter Try.func27, Try.ntmps27
  go_wp2
  go_loopw [5, 6] (fun v i wr => ∃ k : Nat, ∃ (A2 : Option Addr) (n2 c2 : Nat), k ≤ len ∧ i = .int .i64 k ∧ v = .slice A2 n2 c2 ∧ SmpsAre wr A2 n2 c2 (serq room (l.take k)) ∧ Below w.heap.size w wr ∧ (∀ a, A2 = some a → w.heap.size ≤ a.block ∧ a.block < wr.heap.size)) (fun _ i _ => len - (intOf i).toNat)
  case atStart => exact ⟨0, none, 0, 0, Nat.zero_le _, rfl, rfl, slice_nil _ _ _, Below.refl _ _, fun a ha => by cases ha⟩
  case round =>
    obtain ⟨k, A2, n2, c2, hk, rfl, rfl, hsm, hbel, hfr⟩ := hrel
    have HFr := Lib.hid hfr
    clear hfr
    have HM := Lib.hid hsm
    have HB := Lib.hid hbel
    clear hsm
    by_cases hlt : k < len
    · obtain ⟨b, off, x, rfl, hx, hb, t0, t1⟩ := HS.out.at_ hlt
      have kt0 := (hbel.cell (p := ⟨b, off + k * 2, none⟩) hb).trans t0
      have kt1 := (hbel.cell (p := ⟨b, off + k * 2 + 1, none⟩) hb).trans t1
      have hki : (k : Int) < (len : Int) := by omega
      have HN := Lib.hid (serq_next room hx)
      have HP := Lib.hid (fun W hW => ref08_Put A2 n2 c2 (serq room (l.take k)) room x W hW (by have := HM.out.1; have := HLn.out k; have := H2.out; omega) (srt_serq _ _) (by have := H2.out; omega))
      clear hx hb t0 t1 hbel
      by_cases he : serErr x.tick x.value = 0
      · have HV := Lib.hid (show putv (serq room (l.take k)) room x = putq (serq room (l.take k)) room x from if_pos he)
        have HR := Lib.hid (fun w => ref08_Right x.tick x.value w)
        rw [he] at HR
        clear he
        go_wp2
        go_quiet ((go_at_call 18; exact Calls.quiet_of_same ((HR.out _).mono fun _ _ h => ⟨h.1, h.2.symm⟩)))
        go_wp2_with fail
        refine (HP.out _ (slice_keep HM.out (below_drewN (Below.refl _ _) _))).mono ?_
        rintro e w1 ⟨A3, n3, c3, rfl, hs3, hb3, hf3⟩
        have E3 := Lib.hid (fun a ha => (⟨Nat.le_trans HB.out.size (hf3 a ha).1, (hf3 a ha).2⟩ : w.heap.size ≤ a.block ∧ a.block < w1.heap.size))
        clear hf3
        have E1 := Lib.hid (HN.out ▸ HV.out ▸ hs3)
        have E2 := Lib.hid ((below_drewN HB.out _).trans (hb3.mono HB.out.size))
        clear hs3 hb3
        go_wp2
        go_roundw
        case rel => exact ⟨k + 1, A3, n3, c3, by omega, by go_num, rfl, E1.out, E2.out, E3.out⟩
        case measure => simp [intOf]; omega
      · have HV := Lib.hid (show putv (serq room (l.take k)) room x = serq room (l.take k) from if_neg he)
        have HR := Lib.hid (fun w => ref08_Right x.tick x.value w)
        generalize serErr x.tick x.value = E at *
        have d0 : (E == 0) = false := by simpa using he
        clear he
        go_wp2
        go_quiet ((go_at_call 18; exact Calls.quiet_of_same ((HR.out _).mono fun _ _ h => ⟨h.1, h.2.symm⟩)))
        go_wp2
        go_roundw
        case rel => exact ⟨k + 1, A2, n2, c2, by omega, by go_num, rfl, by rw [HN.out, HV.out]; exact slice_keep HM.out (below_drewN (Below.refl _ _) _), below_drewN HB.out _, HFr.out⟩
        case measure => simp [intOf]; omega
    · have hE : l.take k = l := List.take_of_length_le (by have := HL.out; omega)
      rw [hE] at HM
      clear hE hbel
      go_wp2
      go_ret
      exact ⟨_, _, _, rfl, HM.out, HB.out, HFr.out⟩
end Go.Proofs.Ytjodpffdlggjgaa
/- A series, or none, in one: New, Put, List. -/
namespace Go.Proofs.Ytjodpffdlggjgaa
open Go.RowKit
set_option linter.unusedSimpArgs false
set_option linter.unusedVariables false
set_option maxHeartbeats 4000000
set_option maxRecDepth 100000
def goodS (room : Int) : Prop := 1 ≤ room ∧ room ≤ 256
instance (room : Int) : Decidable (goodS room) := by unfold goodS; infer_instance
def putr (l : List Smp) (room : Int) (x : Smp) : List Smp := if goodS room then putv l room.toNat x else l
def errr (room : Int) (x : Smp) : Int := if serErr x.tick x.value = 0 then (if goodS room then 0 else 5) else serErr x.tick x.value
/-- p is a series (or none), in the blocks F. -/
def SerV (w : World) (p : Option Addr) (F : Nat → Prop) (xs : List Smp) (room : Int) : Prop :=
  ((p = none ∧ xs = [] ∧ ¬ goodS room) ∨ ∃ (g : Nat) (v : Value) (rm : Nat), p = some ⟨g, 0, none⟩ ∧ room = rm ∧ 1 ≤ rm ∧ rm ≤ 256 ∧ SerAt w g v xs rm ∧ (∀ k, foot g v k → F k) ∧ Srt xs ∧ xs.length ≤ rm) ∧ ∀ k, F k → k < w.heap.size
theorem SerV.upd {S F : Nat → Prop} {w w' : World} {p : Option Addr} {xs : List Smp} {room : Int} (h : SerV w p F xs room) (hu : Upd S w w') (hn : ∀ k, F k → ¬ S k) : SerV w' p F xs room := by
  refine ⟨?_, fun k hk => Nat.lt_of_lt_of_le (h.2 k hk) hu.size⟩
  rcases h.1 with h | ⟨g, v, rm, e1, e2, e3, e4, e5, e6, e7⟩
  · exact .inl h
  · exact .inr ⟨g, v, rm, e1, e2, e3, e4, e5.upd hu (fun k hk => hn k (e6 k hk)), e6, e7⟩
theorem SerV.call {F : Nat → Prop} {w w' : World} {p : Option Addr} {xs : List Smp} {room : Int} (h : SerV w p F xs room) (hb : Below w.heap.size w w') : SerV w' p F xs room :=
  h.upd (S := fun _ => False) (Upd.of_below hb) (fun _ _ hk => hk)
theorem SerV.len {F : Nat → Prop} {w : World} {p : Option Addr} {xs : List Smp} {room : Int} (h : SerV w p F xs room) : xs.length ≤ 256 := by
  rcases h.1 with ⟨-, rfl, -⟩ | ⟨g, v, rm, e1, e2, e3, e4, e5, e6, e7, e8⟩
  · simp
  · omega
def NewV (w : World) (room : Int) (e : Ending) (w' : World) : Prop := ∃ p F, e = .returned (.pointer p) ∧ SerV w' p F [] room ∧ (∀ k, F k → w.heap.size ≤ k) ∧ Below w.heap.size w w'
theorem serv_New (room : Int) (w : World) : Calls Try.prog 15 #[.int .i64 room] w (NewV w room) := by
  by_cases hr : goodS room
  · obtain ⟨rm, rfl⟩ : ∃ rm : Nat, room = rm := ⟨room.toNat, by unfold goodS at hr; omega⟩
    have h1 : 1 ≤ rm := by unfold goodS at hr; omega
    have h2 : rm ≤ 256 := by unfold goodS at hr; omega
    refine (series_New rm w (by omega) (by omega)).mono ?_
    rintro e w' ⟨rfl, rfl⟩
    refine ⟨_, fun k => k = w.heap.size, rfl, ⟨.inr ⟨_, _, rm, rfl, rfl, h1, h2, SerAt.new w rm, ?_, List.Pairwise.nil, by simp⟩, ?_⟩, ?_, by go_grown⟩
    · rintro k (rfl | hk)
      · rfl
      · simp [Value.ownBlock] at hk
    · rintro k rfl; simp
    · rintro k rfl; exact Nat.le_refl _
  · refine (series_New_no room w (by unfold goodS at hr; omega)).mono ?_
    rintro e w' ⟨rfl, rfl⟩
    exact ⟨none, fun _ => False, rfl, ⟨.inl ⟨rfl, rfl, hr⟩, fun _ hk => hk.elim⟩, fun _ hk => hk.elim, Below.refl _ _⟩
def PutV (p : Option Addr) (F : Nat → Prop) (xs : List Smp) (room : Int) (x : Smp) (w : World) (e : Ending) (w' : World) : Prop := ∃ F', e = .returned (.int .i64 (errr room x)) ∧ SerV w' p F' (putr xs room x) room ∧ Upd F w w' ∧ ∀ k, F' k → F k ∨ w.heap.size ≤ k
theorem serv_Put (p : Option Addr) (F : Nat → Prop) (xs : List Smp) (room : Int) (x : Smp) (w : World) (h : SerV w p F xs room) :
    Calls Try.prog 19 #[.pointer p, .int .i64 x.tick, .int .i64 x.value] w (PutV p F xs room x w) := by
  rcases h.1 with ⟨rfl, rfl, hr⟩ | ⟨g, v, rm, rfl, rfl, e3, e4, e5, e6, e7, e8⟩
  · refine (series_Putv_nil x w).mono ?_
    rintro e w' ⟨rfl, rfl⟩
    refine ⟨F, ?_, ⟨.inl ⟨rfl, ?_, hr⟩, h.2⟩, Upd.refl _ _, fun k hk => .inl hk⟩
    · unfold errr; rw [if_neg hr]
    · unfold putr; rw [if_neg hr]
  · refine (series_Putv g v xs rm x w e5 e7 e8 e3 (by omega)).mono ?_
    rintro e w' ⟨v', rfl, k1, k2, k3⟩
    have hg : goodS rm := by unfold goodS; omega
    have hp : putr xs rm x = putv xs rm x := by unfold putr; rw [if_pos hg]; rfl
    refine ⟨fun k => F k ∨ foot g v' k, ?_, ⟨.inr ⟨g, v', rm, rfl, rfl, e3, e4, by rw [hp]; exact k1, fun k hk => .inr hk, by rw [hp]; exact srt_putv e7 rm x, by rw [hp]; exact len_putv e8 e3 x⟩, ?_⟩, k2.mono e6, ?_⟩
    · unfold errr; rw [if_pos hg]; split
      · rename_i h0; rw [h0]
      · rfl
    · rintro k (hk | hk)
      · exact Nat.lt_of_lt_of_le (h.2 k hk) k2.size
      · exact k1.lt k hk
    · rintro k (hk | hk)
      · exact .inl hk
      · exact (k3 k hk).imp (e6 k) id
theorem serv_List (p : Option Addr) (F : Nat → Prop) (xs : List Smp) (room : Int) (w : World) (h : SerV w p F xs room) :
    Calls Try.prog 54 #[.pointer p] w (CloneS w xs) := by
  rcases h.1 with ⟨rfl, rfl, hr⟩ | ⟨g, v, rm, rfl, rfl, e3, e4, e5, e6, e7, e8⟩
  · refine (series_List_nil w).mono ?_
    rintro e w' ⟨rfl, rfl⟩
    exact CloneS.mk (Own.nil _ _ _ _ _) (Below.refl _ _)
  · exact series_List g v xs rm w e5 (by omega)
end Go.Proofs.Ytjodpffdlggjgaa
/- A ring, plain: what it keeps, in order. -/
namespace Go.Proofs.Ytjodpffdlggjgaa
set_option linter.unusedVariables false
set_option linter.unusedSimpArgs false
def ringq (ph : List Adv) (fr : Nat) : List Adv := ph.drop fr ++ ph.take fr
def pushq (l : List Adv) (room : Nat) (x : Adv) : List Adv := if room < (l ++ [x]).length then (l ++ [x]).drop 1 else l ++ [x]
def RI (ph : List Adv) (fr room : Nat) : Prop := ph.length ≤ room ∧ (ph.length < room → fr = 0) ∧ fr < room
theorem ringq_len (ph : List Adv) (fr room : Nat) (h : RI ph fr room) : (ringq ph fr).length = ph.length := by
  unfold ringq
  rw [List.length_append, List.length_drop, List.length_take]
  have := h.1
  have := h.2.1
  have := h.2.2
  omega
theorem ring_room {ph : List Adv} {fr room : Nat} (h : RI ph fr room) (hl : ph.length < room) (x : Adv) : RI (ph ++ [x]) fr room ∧ ringq (ph ++ [x]) fr = pushq (ringq ph fr) room x := by
  have h0 := h.2.1 hl
  subst h0
  refine ⟨⟨by simp; omega, fun _ => rfl, h.2.2⟩, ?_⟩
  unfold ringq pushq
  simp only [List.drop_zero, List.take_zero, List.append_nil, List.length_append, List.length_singleton]
  rw [if_neg (by omega)]
theorem ring_full {ph : List Adv} {fr room : Nat} (h : RI ph fr room) (hl : ph.length = room) (x : Adv) : RI (ph.set fr x) ((fr + 1) % room) room ∧ ringq (ph.set fr x) ((fr + 1) % room) = pushq (ringq ph fr) room x := by
  have h2 := h.2.2
  have hlt : fr < ph.length := by omega
  refine ⟨⟨by simp; omega, fun hh => by simp at hh; omega, Nat.mod_lt _ (by omega)⟩, ?_⟩
  have e0 : pushq (ringq ph fr) room x = ph.drop (fr + 1) ++ ph.take fr ++ [x] := by
    unfold pushq
    rw [if_pos (by rw [List.length_append, ringq_len ph fr room h]; simp; omega)]
    unfold ringq
    rw [List.drop_eq_getElem_cons hlt]
    rfl
  rw [e0]
  unfold ringq
  rw [List.set_eq_take_append_cons_drop, if_pos hlt]
  have hl2 : (ph.take fr).length = fr := by rw [List.length_take]; omega
  rcases Nat.lt_or_ge (fr + 1) room with h3 | h3
  · rw [Nat.mod_eq_of_lt h3]
    have e1 : (ph.take fr ++ x :: ph.drop (fr + 1)).drop (fr + 1) = ph.drop (fr + 1) := by
      rw [List.drop_append, List.drop_of_length_le (by omega), hl2, show fr + 1 - fr = 1 by omega]; simp
    have e2 : (ph.take fr ++ x :: ph.drop (fr + 1)).take (fr + 1) = ph.take fr ++ [x] := by
      rw [List.take_append, List.take_of_length_le (by omega), hl2, show fr + 1 - fr = 1 by omega]; simp
    rw [e1, e2, List.append_assoc]
  · have : fr + 1 = room := by omega
    rw [this, Nat.mod_self, List.drop_of_length_le (show ph.length ≤ room by omega)]
    simp
theorem ring_at {ph : List Adv} {fr room : Nat} (h : RI ph fr room) {i : Nat} (hi : i < ph.length) : (fr + i) % ph.length < ph.length ∧ ph[(fr + i) % ph.length]? = (ringq ph fr)[i]? := by
  have h1 := h.1
  have h2 := h.2.1
  have h3 := h.2.2
  refine ⟨Nat.mod_lt _ (by omega), ?_⟩
  unfold ringq
  rcases Nat.lt_or_ge (fr + i) ph.length with h4 | h4
  · rw [Nat.mod_eq_of_lt h4, List.getElem?_append_left (by rw [List.length_drop]; omega), List.getElem?_drop]
  · have e : (fr + i) % ph.length = fr + i - ph.length := by
      rw [Nat.mod_eq_sub_mod h4, Nat.mod_eq_of_lt (by omega)]
    rw [e, List.getElem?_append_right (by rw [List.length_drop]; omega), List.length_drop, List.getElem?_take, if_pos (by omega)]
    congr 1
    omega
theorem push_len {l : List Adv} {room : Nat} (h : l.length ≤ room) (h1 : 1 ≤ room) (x : Adv) : (pushq l room x).length ≤ room ∧ 1 ≤ (pushq l room x).length := by
  unfold pushq
  split
  · simp at *; omega
  · simp at *; omega
theorem push_good {l : List Adv} (h : ∀ y ∈ l, y.good) {x : Adv} (hx : x.good) (room : Nat) : ∀ y ∈ pushq l room x, y.good := by
  intro y hy
  unfold pushq at hy
  have key : ∀ y ∈ l ++ [x], y.good := fun y hy => by
    rw [List.mem_append] at hy
    rcases hy with hy | hy
    · exact h y hy
    · simp at hy; subst hy; exact hx
  split at hy
  · exact key y (List.mem_of_mem_drop hy)
  · exact key y hy
end Go.Proofs.Ytjodpffdlggjgaa
/- Package ring at api.Advice: New, Len, At. (fast region) -/
namespace Go.Proofs.Ytjodpffdlggjgaa
open Go.RowKit
set_option linter.unusedSimpArgs false
set_option linter.unusedVariables false
set_option maxHeartbeats 4000000
set_option maxRecDepth 100000
abbrev rowA (a : Adv) : Array Value := #[.int .i64 a.tick, .int .i64 a.load, .int .i64 a.want, .int .i64 a.repl, .int .i64 a.why]
abbrev zA : Array Value := #[.int .i64 0, .int .i64 0, .int .i64 0, .int .i64 0, .int .i64 0]
abbrev OwnA (w : World) (base : Nat) (v : Value) (l : List Adv) : Prop := Own w base 26 5 Adv.cells v l
theorem adv_len (x : Adv) : x.cells.length = 5 := rfl
theorem adv_one : ∀ x : Adv, ∀ u ∈ x.cells, u.oneCell' = true := by
  intro x u hu
  simp [Adv.cells] at hu
  rcases hu with rfl | rfl | rfl | rfl | rfl <;> rfl
theorem info_adv : (Try.prog.info? 26).map (fun i => (i.zero, i.size, i.bytes)) = some (some (.agg #[.int .i64 0, .int .i64 0, .int .i64 0, .int .i64 0, .int .i64 0]), 5, 40) := by kernel_rfl
/-- Block g is a ring; its row is v. -/
def RingAt (w : World) (g : Nat) (v : Value) (ph : List Adv) (fr room : Nat) : Prop := Blk w g 154 #[v, .int .i64 fr, .int .i64 room] ∧ OwnA w 0 v ph ∧ v.ownBlock ≠ some g ∧ RI ph fr room
theorem RingAt.upd {S : Nat → Prop} {w w' : World} {g : Nat} {v : Value} {ph : List Adv} {fr room : Nat} (h : RingAt w g v ph fr room) (hu : Upd S w w') (hn : ∀ k, foot g v k → ¬ S k) : RingAt w' g v ph fr room :=
  ⟨h.1.upd hu (hn g (.inl rfl)), h.2.1.upd hu (fun k hk => hn k (.inr hk)), h.2.2⟩
theorem RingAt.call {w w' : World} {g : Nat} {v : Value} {ph : List Adv} {fr room : Nat} (h : RingAt w g v ph fr room) (hb : Below w.heap.size w w') : RingAt w' g v ph fr room := ⟨h.1.call hb, h.2.1.call hb, h.2.2⟩
theorem RingAt.lt {w : World} {g : Nat} {v : Value} {ph : List Adv} {fr room : Nat} (h : RingAt w g v ph fr room) : ∀ k, foot g v k → k < w.heap.size := by
  rintro k (rfl | hk)
  · exact h.1.lt
  · exact (World.ownsRow.lt h.2.1 k hk).2
theorem RingAt.cells {w : World} {g : Nat} {v : Value} {ph : List Adv} {fr room : Nat} (h : RingAt w g v ph fr room) : w.cell? ⟨g, 0, none⟩ = some v ∧ w.cell? ⟨g, 1, none⟩ = some (.int .i64 fr) ∧ w.cell? ⟨g, 2, none⟩ = some (.int .i64 room) := ⟨h.1.cellv rfl, h.1.cellv rfl, h.1.cellv rfl⟩
theorem ring_New (room : Nat) (w : World) (h1 : 1 ≤ room) (h2 : room ≤ 4096) :
    Calls Try.prog 88 #[.int .i64 room] w fun e w' => e = .returned (.pointer (some ⟨w.heap.size, 0, none⟩)) ∧ w' = w.alloc (.cells #[.slice none 0 0, .int .i64 0, .int .i64 room] 154) := by
  have d1 : decide ((room : Int) < 1) = false := by simp; omega
  have d1' : ¬ room < 1 := by omega
  have d2 : decide ((4096 : Int) < (room : Int)) = false := by simp; omega
  go_enter Try.func88, Try.ntmps88
  go_wp2
  go_ret
  exact ⟨rfl, rfl⟩
theorem RingAt.new (w : World) (room : Nat) (h : 1 ≤ room) : RingAt (w.alloc (.cells #[.slice none 0 0, .int .i64 0, .int .i64 room] 154)) w.heap.size (.slice none 0 0) [] 0 room :=
  ⟨Blk.new _ _ _, Own.nil _ _ _ _ _, by simp [Value.ownBlock], by simp [RI]; omega⟩
theorem ring_Len_nil (w : World) : Calls Try.prog 92 #[.pointer none] w fun e w' => e = .returned (.int .i64 0) ∧ w = w' := by
  go_enter Try.func92, Try.ntmps92
  go_wp2
  go_ret
  exact ⟨rfl, rfl⟩
theorem ring_Len (g : Nat) (v : Value) (ph : List Adv) (fr room : Nat) (w : World) (h : RingAt w g v ph fr room) :
    Calls Try.prog 92 #[.pointer (some ⟨g, 0, none⟩)] w fun e w' => e = .returned (.int .i64 ph.length) ∧ w = w' := by
  obtain ⟨A, n, c, rfl, hnl, hsl⟩ := h.2.1.shape adv_len
  subst hnl
  have c3 := h.cells.1
  clear h hsl
  go_enter Try.func92, Try.ntmps92
  go_wp2
  go_ret
  exact ⟨rfl, rfl⟩
theorem ring_At (g : Nat) (v : Value) (ph : List Adv) (fr room i : Nat) (x : Adv) (w : World) (h : RingAt w g v ph fr room) (hroom : room ≤ 1000000) (hx : (ringq ph fr)[i]? = some x) :
    Calls Try.prog 131 #[.pointer (some ⟨g, 0, none⟩), .int .i64 i] w fun e w' => e = .returned (.tuple #[.agg (rowA x), .bool true]) ∧ Below w.heap.size w w' := by
  have hi : i < ph.length := by rw [← ringq_len ph fr room h.2.2.2]; exact (List.getElem?_eq_some_iff.1 hx).1
  obtain ⟨hj, hj2⟩ := ring_at h.2.2.2 hi
  rw [hx] at hj2
  have hfr := h.2.2.2.2.2
  have hpr := h.2.2.2.1
  obtain ⟨A, n, c, rfl, hnl, hsl⟩ := h.2.1.shape adv_len
  obtain ⟨b, off, y, rfl, hy, hb, u0, u1, u2, u3, u4⟩ := AdvsAre.at_ hsl (show (fr + i) % ph.length < n by omega)
  rw [hj2] at hy
  cases hy
  subst hnl
  have E0 := (show Below w.heap.size w ((w.alloc (.cells #[.int .i64 0, .int .i64 0, .int .i64 0, .int .i64 0, .int .i64 0] 26)).alloc (.cells #[.int .i64 0, .int .i64 0, .int .i64 0, .int .i64 0, .int .i64 0] 26)) by go_grown)
  have HS := Lib.hid (h.call E0)
  have HL := Lib.hid (fun W hW => ring_Len g (.slice (some ⟨b, off, none⟩) ph.length c) ph fr room W hW)
  have HR := Lib.hid ((Blk.new w 26 #[.int .i64 0, .int .i64 0, .int .i64 0, .int .i64 0, .int .i64 0]).alloc (.cells #[.int .i64 0, .int .i64 0, .int .i64 0, .int .i64 0, .int .i64 0] 26))
  have HE := Lib.hid E0
  have hmod : ((fr : Int) + (i : Int)).tmod (ph.length : Int) = (((fr + i) % ph.length : Nat) : Int) := by
    rw [← Int.natCast_add, ← Int.ofNat_tmod]
  have HM := Lib.hid hmod
  have HC := Lib.hid (fun W (hW : Below w.heap.size w W) => (⟨(hW.cell (p := ⟨b, off + (fr + i) % ph.length * 5, none⟩) hb).trans u0, (hW.cell (p := ⟨b, off + (fr + i) % ph.length * 5 + 1, none⟩) hb).trans u1, (hW.cell (p := ⟨b, off + (fr + i) % ph.length * 5 + 2, none⟩) hb).trans u2, (hW.cell (p := ⟨b, off + (fr + i) % ph.length * 5 + 3, none⟩) hb).trans u3, (hW.cell (p := ⟨b, off + (fr + i) % ph.length * 5 + 4, none⟩) hb).trans u4⟩ :
    W.cell? ⟨b, off + (fr + i) % ph.length * 5, none⟩ = some (.int .i64 x.tick) ∧ W.cell? ⟨b, off + (fr + i) % ph.length * 5 + 1, none⟩ = some (.int .i64 x.load) ∧ W.cell? ⟨b, off + (fr + i) % ph.length * 5 + 2, none⟩ = some (.int .i64 x.want) ∧ W.cell? ⟨b, off + (fr + i) % ph.length * 5 + 3, none⟩ = some (.int .i64 x.repl) ∧ W.cell? ⟨b, off + (fr + i) % ph.length * 5 + 4, none⟩ = some (.int .i64 x.why)))
  have HWr := Lib.hid (show IntKind.i64.wrap ((fr : Int) + (i : Int)) = (fr : Int) + (i : Int) by rw [IntKind.wrap_i64]; omega)
  have d1 : decide ((i : Int) < 0) = false := by simp
  have d2 : decide ((ph.length : Int) ≤ (i : Int)) = false := by simp; omega
  have hni : ¬ ph.length ≤ i := by omega
  clear h hsl hb u0 u1 u2 u3 u4 hx hj2 E0 hmod
  generalize hJ : (fr + i) % ph.length = J at *
  have HJ := Lib.hid hJ
  clear hJ
  go_enter Try.func131, Try.ntmps131
  go_wp2_with fail
  refine (HL.out _ HS.out).mono ?_
  rintro e w1 ⟨rfl, rfl⟩
  go_upto_region 4 with (fail)
  generalize (w.alloc (.cells #[.int .i64 0, .int .i64 0, .int .i64 0, .int .i64 0, .int .i64 0] 26)).alloc (.cells #[.int .i64 0, .int .i64 0, .int .i64 0, .int .i64 0, .int .i64 0] 26) = w0 at *
  generalize hg0 : w.heap.size = g0 at *
  have HG0 := Lib.hid hg0
  clear hg0
  generalize ph.length = n at *
  refine wp_region_any (by kernel_rfl) ?_; change wpAny _ _ _ _ _ _ _ (World.drew w0); refine any_of_anyG (late := fun j => [18, 19].contains j) (S := fun wS => Below w0.heap.size w0 wS) _ _ _ _ ?_
  have S0 := (Below.refl w0.heap.size w0).drew
  refine anyG_takes (is := [0, 1, 2, 3, 4]) (vs := [_, _, _, .slice (some ⟨b, off, none⟩) n c, _]) (m := 15) (listed2 := #[true, true, true, true, true, false, false, false, false, false, false, false, false, false, false, false, false, false, false, false]) (a2 := ⟨#[_, _, _, _, _, _, _, _, _, _, _, _, _, _, _, _, _, _, _, _, _, _, _, _, _, _, _, _, _, _, _, _, _, _], _⟩) (by kernel_rfl) (fun j hj => by first | (simp at hj; done) | (simp at hj; simp; omega)) (by kernel_rfl) (fun _ _ _ _ _ h => h) (Ys.cons rfl (Or.inl ⟨by rfl, fun W1 hW1 => by first | rfl | (go_simp; done) | (go_simp; with_reducible rfl)⟩) (Ys.cons rfl (Or.inl ⟨by rfl, fun W1 hW1 => by first | rfl | (go_simp; done) | (go_simp; with_reducible rfl)⟩) (Ys.cons rfl (Or.inl ⟨by rfl, fun W1 hW1 => by first | rfl | (go_simp; done) | (go_simp; with_reducible rfl)⟩) (Ys.cons rfl (Or.inl ⟨by rfl, fun W1 hW1 => by have c := (HS.out.call hW1).cells.1; go_simp⟩) (Ys.cons rfl (Or.inl ⟨by rfl, fun W1 hW1 => by first | rfl | (go_simp; done) | (go_simp; with_reducible rfl)⟩) (Ys.nil)))))) (S0) (by rfl) (by rfl) ?_
  refine anyG_takes (is := [5, 6, 7, 8, 9]) (vs := [_, _, .int .i64 fr, _, .int .i64 ((fr : Int) + (i : Int))]) (m := 10) (listed2 := #[true, true, true, true, true, true, true, true, true, true, false, false, false, false, false, false, false, false, false, false]) (a2 := ⟨#[_, _, _, _, _, _, _, _, _, _, _, _, _, _, _, _, _, _, _, _, _, _, _, _, _, _, _, _, _, _, _, _, _, _], _⟩) (by kernel_rfl) (fun j hj => by first | (simp at hj; done) | (simp at hj; simp; omega)) (by kernel_rfl) (fun _ _ _ _ _ h => h) (Ys.cons rfl (Or.inl ⟨by rfl, fun W1 hW1 => by first | rfl | (go_simp; done) | (go_simp; with_reducible rfl)⟩) (Ys.cons rfl (Or.inl ⟨by rfl, fun W1 hW1 => by first | rfl | (go_simp; done) | (go_simp; with_reducible rfl)⟩) (Ys.cons rfl (Or.inl ⟨by rfl, fun W1 hW1 => by have c := (HS.out.call hW1).cells.2.1; go_simp⟩) (Ys.cons rfl (Or.inl ⟨by rfl, fun W1 hW1 => by first | rfl | (go_simp; done) | (go_simp; with_reducible rfl)⟩) (Ys.cons rfl (Or.inl ⟨by rfl, fun W1 hW1 => by have hw := HWr.out; go_simp⟩) (Ys.nil)))))) (S0) (by rfl) (by rfl) ?_
  refine anyG_takes (is := [10, 11, 12, 13, 14]) (vs := [_, _, _, .slice (some ⟨b, off, none⟩) n c, .int .i64 n]) (m := 5) (listed2 := #[true, true, true, true, true, true, true, true, true, true, true, true, true, true, true, false, false, false, false, false]) (a2 := ⟨#[_, _, _, _, _, _, _, _, _, _, _, _, _, _, _, _, _, _, _, _, _, _, _, _, _, _, _, _, _, _, _, _, _, _], _⟩) (by kernel_rfl) (fun j hj => by first | (simp at hj; done) | (simp at hj; simp; omega)) (by kernel_rfl) (fun _ _ _ _ _ h => h) (Ys.cons rfl (Or.inl ⟨by rfl, fun W1 hW1 => by first | rfl | (go_simp; done) | (go_simp; with_reducible rfl)⟩) (Ys.cons rfl (Or.inl ⟨by rfl, fun W1 hW1 => by first | rfl | (go_simp; done) | (go_simp; with_reducible rfl)⟩) (Ys.cons rfl (Or.inl ⟨by rfl, fun W1 hW1 => by first | rfl | (go_simp; done) | (go_simp; with_reducible rfl)⟩) (Ys.cons rfl (Or.inl ⟨by rfl, fun W1 hW1 => by have c := (HS.out.call hW1).cells.1; go_simp⟩) (Ys.cons rfl (Or.inl ⟨by rfl, fun W1 hW1 => by go_simp⟩) (Ys.nil)))))) (S0) (by rfl) (by rfl) ?_
  refine anyG_takes (is := [15, 16, 17]) (vs := [.int .i64 J, .pointer (some ⟨b, off + J * 5, none⟩), .agg (rowA x)]) (m := 2) (listed2 := #[true, true, true, true, true, true, true, true, true, true, true, true, true, true, true, true, true, true, false, false]) (a2 := ⟨#[_, _, _, _, _, _, _, _, _, _, _, _, _, _, _, _, _, _, _, _, _, _, _, _, _, _, _, _, _, _, _, _, _, _], _⟩) (by kernel_rfl) (fun j hj => by first | (simp at hj; done) | (simp at hj; simp; omega)) (by kernel_rfl) (fun _ _ _ _ _ h => h) (Ys.cons rfl (Or.inl ⟨by rfl, fun W1 hW1 => by have h0 : ¬ (n = 0) := (by omega); have hM := HM.out; go_simp⟩) (Ys.cons rfl (Or.inl ⟨by rfl, fun W1 hW1 => by first | (go_simp; done) | (go_simp; intro hh; omega)⟩) (Ys.cons rfl (Or.inl ⟨by rfl, fun W1 hW1 => by obtain ⟨q0, q1, q2, q3, q4⟩ := HC.out _ (HE.out.trans (hW1.mono (Nat.le_of_lt HR.out.lt))); go_simp⟩) (Ys.nil)))) (S0) (by rfl) (by rfl) ?_
  refine anyG_of_any _ _ _ _ (by kernel_rfl) ?_
  refine any_one (k := 18) (by kernel_rfl) rfl (by rfl) (fun Q2 hQ2 => ?_); go_wp2_with (refine wpList_store_row rfl 26 (.tmp 4) (.tmp 33) rfl g0 _ _ _ rfl rfl (HR.out.call S0) (by rfl) (by kernel_rfl) (by simp [Value.oneCell']) ?_; intro w9 hb9 hg9); (try refine hQ2 _ _ ?_); (try clear hQ2 Q2)
  refine wpAny_take (i := 19) (v := _) rfl (by kernel_rfl) (by kernel_rfl) (by kernel_rfl) (fun _ _ _ h => h) (Or.inl ⟨by rfl, fun W => by rfl⟩) ?_
  refine wpAny_done (by kernel_rfl) ?_ _
  have HE9 := Lib.hid ((HE.out.trans (S0.mono (Nat.le_of_lt HR.out.lt))).trans (Only.below hg9 (Nat.le_refl _) (Nat.le_trans (Nat.le_of_lt HR.out.lt) S0.size)))
  have HB9 := Lib.hid hb9
  clear hb9 hg9
  go_wp2
  refine bodyPost_ret (results_row_tmp rfl _ _ g0 _ _ _ rfl HB9.out Try.underlying26 rfl (by kernel_rfl)) rfl ⟨rfl, ?_⟩
  rw [HG0.out]; exact HE9.out
end Go.Proofs.Ytjodpffdlggjgaa
/- Package ring at api.Advice: Push. (fast region) -/
namespace Go.Proofs.Ytjodpffdlggjgaa
open Go.RowKit
set_option linter.unusedSimpArgs false
set_option linter.unusedVariables false
set_option maxHeartbeats 4000000
set_option maxRecDepth 100000
def RingPost (g : Nat) (v : Value) (ph : List Adv) (fr room : Nat) (w : World) (e : Ending) (w' : World) : Prop := ∃ v' y b, e = .returned (.tuple #[.agg y, .bool b]) ∧ RingAt w' g v' ph fr room ∧ Upd (foot g v) w w' ∧ ∀ k, foot g v' k → foot g v k ∨ w.heap.size ≤ k
theorem RingAt.put {w w' : World} {g : Nat} {v v' : Value} {ph ph' : List Adv} {fr room : Nat} (h : RingAt w g v ph fr room) (hu : Upd (fun k => v.ownBlock = some k) w w') (ho : OwnA w' 0 v' ph') (hw : v'.ownBlock = v.ownBlock ∨ ∃ k, v'.ownBlock = some k ∧ w.heap.size ≤ k) (hri : RI ph' fr room) :
    RingAt (w'.setCell ⟨g, 0, none⟩ v') g v' ph' fr room ∧ Upd (foot g v) w (w'.setCell ⟨g, 0, none⟩ v') ∧ (∀ k, foot g v' k → foot g v k ∨ w.heap.size ≤ k) ∧ w'.cell? ⟨g, 0, none⟩ = some v ∧ w'.frozen? ⟨g, 0, none⟩ = false := by
  have hne : v'.ownBlock ≠ some g := by
    rcases hw with e | ⟨k, e, hk⟩
    · rw [e]; exact h.2.2.1
    · rw [e]; intro e2; have := h.1.lt; cases e2; omega
  have hb : Blk w' g 154 #[v, .int .i64 fr, .int .i64 room] := h.1.upd hu (fun e => h.2.2.1 e)
  refine ⟨⟨hb.set_ 0 v', ho.far (fun k hk e => hne (by rw [hk, e])) _, hne, hri⟩, (hu.mono (fun k hk => .inr hk)).setCell (.inl (.inl rfl)) _, ?_, hb.cellv rfl, hb.frozen _⟩
  rintro k (rfl | hk)
  · exact .inl (.inl rfl)
  · rcases hw with e | ⟨j, e, hj⟩
    · exact .inl (.inr (by rw [← e]; exact hk))
    · rw [e] at hk; cases hk; exact .inr hj
/-- The three blocks that Push lays first. -/
abbrev push0 (w : World) (x : Adv) : World := ((w.alloc (.cells (rowA x) 26)).alloc (.cells zA 26)).alloc (.cells zA 26)
theorem push0_facts (w : World) (x : Adv) : Blk (push0 w x) w.heap.size 26 (rowA x) ∧ Blk (push0 w x) (w.heap.size + 1) 26 zA ∧ Blk (push0 w x) (w.heap.size + 2) 26 zA ∧ Below w.heap.size w (push0 w x) ∧ (push0 w x).heap.size = w.heap.size + 3 := by
  refine ⟨((Blk.new w _ _).alloc _).alloc _, (Blk.new2 w _ _ _).alloc _, ?_, by go_grown, by simp⟩
  have h := Blk.new ((w.alloc (.cells (rowA x) 26)).alloc (.cells zA 26)) 26 zA
  simpa using h
theorem ring_Push_nil (x : Adv) (w : World) :
    Calls Try.prog 91 #[.pointer none, .agg (rowA x)] w fun e w' => (e = .returned (.tuple #[.agg zA, .bool false])) ∧ Below w.heap.size w w' := by
  obtain ⟨f1, f2, f3, f4, f5⟩ := push0_facts w x
  have F2 := Lib.hid f2
  have F3 := Lib.hid f3
  have F4 := Lib.hid f4
  have F5 := Lib.hid f5
  clear f1 f2 f3 f4 f5
  go_enter Try.func91, Try.ntmps91
  go_upto_region 3 with (fail)
  go_wp2_with (first | (refine Blk.load rfl 26 (.tmp 6) rfl (w.heap.size + 2) _ _ _ rfl F3.out Try.underlying26 rfl (by kernel_rfl) ?_) | (refine wpList_store_row rfl 26 (.tmp 4) (.tmp 18) rfl (w.heap.size + 1) _ _ _ rfl rfl F2.out (by rfl) (by kernel_rfl) (by simp [Value.oneCell']) ?_; intro w9 hb9 hg9; have HB9 := Lib.hid hb9; have HG9 := Lib.hid hg9; clear hb9 hg9))
  refine bodyPost_ret (results_row_tmp rfl _ _ (w.heap.size + 1) _ _ _ rfl HB9.out Try.underlying26 rfl (by kernel_rfl)) rfl ⟨rfl, F4.out.trans (Only.below HG9.out (by omega) F4.out.size)⟩
theorem push_done {g : Nat} {v v' : Value} {ph' : List Adv} {fr' room : Nat} {w w2 w5 w9 : World} (F4 : Below w.heap.size w w2) (F5 : w2.heap.size = w.heap.size + 3) (HLt : ∀ k, foot g v k → k < w.heap.size) (P1 : RingAt w5 g v' ph' fr' room) (U5 : Upd (foot g v) w2 w5)
    (P3 : ∀ k, foot g v' k → foot g v k ∨ w2.heap.size ≤ k) (HG9 : w5.grownBy w9 (some (w.heap.size + 1))) : RingAt w9 g v' ph' fr' room ∧ Upd (foot g v) w w9 ∧ ∀ k, foot g v' k → foot g v k ∨ w.heap.size ≤ k := by
  have h1 : ∀ k, foot g v' k → k ≠ w.heap.size + 1 := fun k hk e => by
    rcases P3 k hk with h | h
    · have := HLt k h; omega
    · omega
  refine ⟨P1.upd (S := fun k => k = w.heap.size + 1) ((Upd.refl _ w5).grown HG9 (fun k e => by cases e; exact .inl rfl)) (fun k hk => h1 k hk), ?_, fun k hk => (P3 k hk).imp id (fun h => by omega)⟩
  exact ((Upd.of_below F4).trans U5 (fun k hk => .inl hk)).grown HG9 (fun k e => by cases e; exact .inr (by omega))
theorem ring_Push_room (g : Nat) (v : Value) (ph : List Adv) (fr room : Nat) (x : Adv) (w : World) (h : RingAt w g v ph fr room) (hroom : room ≤ 100000) (hl : ph.length < room) :
    Calls Try.prog 91 #[.pointer (some ⟨g, 0, none⟩), .agg (rowA x)] w (RingPost g v (ph ++ [x]) fr room w) := by
  obtain ⟨f1, f2, f3, f4, f5⟩ := push0_facts w x
  have HRI := Lib.hid (ring_room h.2.2.2 hl x).1
  have H0 := Lib.hid (h.call f4)
  have HLt := Lib.hid h.lt
  obtain ⟨A, n, c, rfl, hnl, -⟩ := h.2.1.shape adv_len
  subst hnl
  obtain ⟨c0, c1, c2⟩ := H0.out.cells
  have F1 := Lib.hid f1
  have F2 := Lib.hid f2
  have F3 := Lib.hid f3
  have F4 := Lib.hid f4
  have F5 := Lib.hid f5
  have d1 : ((room : Int) == 0) = false := by simp; omega
  have d2 : decide ((ph.length : Int) < (room : Int)) = true := by simp; omega
  have hlt2 : ph.length < room := hl
  have hroom0 : ¬ room = 0 := by omega
  have hlen : ph.length < 1000000 := by omega
  have HLen := Lib.hid hlen
  clear h f1 f2 f3 f4 f5 hl hlen
  go_enter Try.func91, Try.ntmps91
  go_upto_region 4 with (fail)
  go_quiet (fail)
  go_upto_region 5 with (fail)
  have F1 := Lib.hid (F1.out.drewN nq)
  have F2 := Lib.hid (F2.out.drewN nq)
  have F3 := Lib.hid (F3.out.drewN nq)
  have F4 := Lib.hid (below_drewN F4.out nq)
  have F5 := Lib.hid (show ((push0 w x).drewN nq).heap.size = w.heap.size + 3 from F5.out)
  have H0 := Lib.hid (H0.out.call (below_drewN (Below.refl _ _) nq))
  clear d1 d2 hlt2 c0 c1 c2
  generalize (push0 w x).drewN nq = w2 at *
  refine wp_region_any (by kernel_rfl) ?_; change wpAny _ _ _ _ _ _ _ (World.drew w2); refine any_of_anyG (late := fun j => [10].contains j) (S := fun wS => Upd (fun k => (Value.slice A ph.length c).ownBlock = some k) w2 wS) _ _ _ _ ?_
  have S0 := (Upd.refl (fun k => (Value.slice A ph.length c).ownBlock = some k) w2).drew
  refine anyG_takes (is := [0, 1, 2, 3, 4]) (vs := [_, _, _, _, .slice A ph.length c]) (m := 6) (listed2 := #[true, true, true, true, true, false, false, false, false, false, false]) (a2 := ⟨#[_, _, _, _, _, _, _, _, _, _, _, _, _, _, _, _, _, _, _, _, _, _, _, _, _, _, _, _, _, _, _, _, _, _, _, _, _, _, _, _, _, _, _, _, _, _, _, _, _, _, _, _, _, _, _, _, _, _, _, _, _, _, _, _, _, _, _, _, _, _, _, _, _, _, _], _⟩) (by kernel_rfl) (fun j hj => by first | (simp at hj; done) | (simp at hj; simp; omega)) (by kernel_rfl) (fun _ _ _ _ _ h => h) (Ys.cons rfl (Or.inl ⟨by rfl, fun W1 hW1 => by first | rfl | (go_simp; done) | (go_simp; with_reducible rfl)⟩) (Ys.cons rfl (Or.inl ⟨by rfl, fun W1 hW1 => by first | rfl | (go_simp; done) | (go_simp; with_reducible rfl)⟩) (Ys.cons rfl (Or.inl ⟨by rfl, fun W1 hW1 => by first | rfl | (go_simp; done) | (go_simp; with_reducible rfl)⟩) (Ys.cons rfl (Or.inl ⟨by rfl, fun W1 hW1 => by first | rfl | (go_simp; done) | (go_simp; with_reducible rfl)⟩) (Ys.cons rfl (Or.inl ⟨by rfl, fun W1 hW1 => by have c := (H0.out.1.upd hW1 (fun e => H0.out.2.2.1 e)).cellv (i := 0) (v := .slice A ph.length c) rfl; go_simp⟩) (Ys.nil)))))) (S0) (by rfl) (by rfl) ?_
  refine anyG_takes (is := [5]) (vs := [_]) (m := 5) (listed2 := #[true, true, true, true, true, true, false, false, false, false, false]) (a2 := ⟨#[_, _, _, _, _, _, _, _, _, _, _, _, _, _, _, _, _, _, _, _, _, _, _, _, _, _, _, _, _, _, _, _, _, _, _, _, _, _, _, _, _, _, _, _, _, _, _, _, _, _, _, _, _, _, _, _, _, _, _, _, _, _, _, _, _, _, _, _, _, _, _, _, _, _, _], _⟩) (by kernel_rfl) (fun j hj => by first | (simp at hj; done) | (simp at hj; simp; omega)) (by kernel_rfl) (fun _ _ _ _ _ h => h) (Ys.cons rfl (Or.inl ⟨by rfl, fun W1 hW1 => exec_load (ty := 26) (x := .tmp 3) rfl rfl (run_loadAt_blk _ _ _ _ _ _ (F1.out.upd hW1 (fun e => absurd (HLt.out _ (.inr e)) (by omega))) Try.underlying26 rfl (by first | kernel_rfl | exact info_num _))⟩) (Ys.nil)) (S0) (by rfl) (by rfl) ?_
  refine anyG_one (k := 6) (by kernel_rfl) rfl (by rfl) (fun Q2 hQ2 => ?_)
  have nG := new_atU (S := S0) (#[.int .i64 x.tick, .int .i64 x.load, .int .i64 x.want, .int .i64 x.repl, .int .i64 x.why]) 26
  obtain ⟨G, hG, bG, lG⟩ := nG
  go_wp2_with fail
  refine hQ2 _ _ (fun _ => S0.alloc _) ?_
  clear hQ2 Q2
  (try simp only [hG])
  clear hG
  have SG := S0.alloc (.cells (#[.int .i64 x.tick, .int .i64 x.load, .int .i64 x.want, .int .i64 x.repl, .int .i64 x.why]) 26)
  refine anyG_one (k := 7) (by kernel_rfl) rfl (by rfl) (fun Q2 hQ2 => ?_); go_wp2_with (refine wpList_push2 _ rfl (.tmp 34) (.tmp 36) 24 rfl 0 26 _ 5 40 _ Try.underlying24 info_adv (by rfl) (by decide) (fun _ => rfl) adv_one (.slice A ph.length c) ph rfl (H0.out.2.1.drew_.alloc _) ⟨G, 0, none⟩ 1 x rfl (blk_news (α := Adv) (vs := x.cells) bG rfl) HLen.out (by decide) (Nat.zero_le _) ?_; intro v' w3 ho3 hu3 hw3; obtain ⟨A', n', c', rfl, -, -⟩ := ho3.shape adv_len; obtain ⟨p1, p2, p3, p4, p5⟩ := RingAt.put (H0.out.call ((Below.refl _ _).drew.alloc (Nat.le_refl _) _)) hu3 ho3 (hw3.imp id (fun e => ⟨_, e, Nat.le_refl _⟩)) HRI.out; have P1 := Lib.hid p1; have P2 := Lib.hid p2; have P3 := Lib.hid p3; clear p1 p2 p3); refine hQ2 _ _ (fun _ => SG.trans hu3 (fun k hk => .inl hk)) ?_; clear hQ2 Q2
  have S3 := SG.trans hu3 (fun k hk => .inl hk)
  refine anyG_one (k := 8) (by kernel_rfl) rfl (by rfl) (fun Q2 hQ2 => ?_); go_wp2_with fail; refine hQ2 _ _ (fun _ => S3) ?_; clear hQ2 Q2
  refine anyG_takes (is := [9]) (vs := [_]) (m := 1) (listed2 := #[true, true, true, true, true, true, true, true, true, true, false]) (a2 := ⟨#[_, _, _, _, _, _, _, _, _, _, _, _, _, _, _, _, _, _, _, _, _, _, _, _, _, _, _, _, _, _, _, _, _, _, _, _, _, _, _, _, _, _, _, _, _, _, _, _, _, _, _, _, _, _, _, _, _, _, _, _, _, _, _, _, _, _, _, _, _, _, _, _, _, _, _], _⟩) (by kernel_rfl) (fun j hj => by first | (simp at hj; done) | (simp at hj; simp; omega)) (by kernel_rfl) (fun _ _ _ _ _ h => h) (Ys.cons rfl (Or.inl ⟨by rfl, fun W1 hW1 => by first | rfl | (go_simp; done) | (go_simp; with_reducible rfl)⟩) (Ys.nil)) (S3) (by rfl) (by rfl) ?_
  refine anyG_of_any _ _ _ _ (by kernel_rfl) ?_
  refine any_one (k := 10) (by kernel_rfl) rfl (by rfl) (fun Q2 hQ2 => ?_); go_wp2_with fail; (try refine hQ2 _ _ ?_); (try clear hQ2 Q2)
  refine wpAny_done (by kernel_rfl) ?_ _
  have U5 := Lib.hid ((Upd.of_below (S := foot g (Value.slice A ph.length c)) (show Below w2.heap.size w2 (w2.drew.alloc (.cells (rowA x) 26)) from (Below.refl _ w2).drew.alloc (Nat.le_refl _) _)).trans P2.out (fun k hk => .inl hk))
  have P4 := Lib.hid (fun k hk => (P3.out k hk).imp id (fun h => Nat.le_trans ((Below.refl w2.heap.size w2).drew.alloc (Nat.le_refl _) (.cells (rowA x) 26)).size h))
  have G2 := Lib.hid (F2.out.upd U5.out (fun hf => by have := HLt.out _ hf; omega))
  have G3 := Lib.hid (F3.out.upd U5.out (fun hf => by have := HLt.out _ hf; omega))
  clear P2 P3 hu3 hw3 ho3 p4 p5 SG S3 bG F1 F2 F3
  generalize w3.setCell ⟨g, 0, none⟩ (.slice A' n' c') = w5 at *
  go_wp2_with (first | (refine Blk.load rfl 26 (.tmp 6) rfl (w.heap.size + 2) _ _ _ rfl G3.out Try.underlying26 rfl (by kernel_rfl) ?_) | (refine wpList_store_row rfl 26 (.tmp 4) (.tmp 40) rfl (w.heap.size + 1) _ _ _ rfl rfl G2.out (by rfl) (by kernel_rfl) (by simp [Value.oneCell']) ?_; intro w9 hb9 hg9; have HB9 := Lib.hid hb9; have HG9 := Lib.hid hg9; clear hb9 hg9))
  refine bodyPost_ret (results_row_tmp rfl _ _ (w.heap.size + 1) _ _ _ rfl HB9.out Try.underlying26 rfl (by kernel_rfl)) rfl ⟨_, _, _, rfl, push_done F4.out F5.out HLt.out P1.out U5.out P4.out HG9.out⟩
end Go.Proofs.Ytjodpffdlggjgaa
/- Package ring at api.Advice: Push into a full ring. (fast region) -/
namespace Go.Proofs.Ytjodpffdlggjgaa
open Go.RowKit
set_option linter.unusedSimpArgs false
set_option linter.unusedVariables false
set_option maxHeartbeats 8000000
set_option maxRecDepth 100000
theorem ring_Push_full (g : Nat) (v : Value) (ph : List Adv) (fr room : Nat) (x : Adv) (w : World) (h : RingAt w g v ph fr room) (hroom : room ≤ 100000) (hl : ph.length = room) :
    Calls Try.prog 91 #[.pointer (some ⟨g, 0, none⟩), .agg (rowA x)] w (RingPost g v (ph.set fr x) ((fr + 1) % room) room w) := by
  obtain ⟨f1, f2, f3, f4, f5⟩ := push0_facts w x
  have HRI := Lib.hid (ring_full h.2.2.2 hl x).1
  have HRI0 := Lib.hid h.2.2.2
  have H0 := Lib.hid (h.call f4)
  have HLt := Lib.hid h.lt
  have hfr := h.2.2.2.2.2
  obtain ⟨A, n, c, rfl, hnl, hsl⟩ := h.2.1.shape adv_len
  obtain ⟨b, off, y, rfl, hy, hb, u0, u1, u2, u3, u4⟩ := AdvsAre.at_ hsl (show fr < n by omega)
  have h0 : off = 0 := by
    rcases h.2.1.2 with ⟨e, _⟩ | ⟨b', cap, cur, e, _⟩
    · cases e
    · cases e; rfl
  subst h0
  rw [Nat.zero_add] at u0 u1 u2 u3 u4
  subst hnl
  have HC := Lib.hid (fun W (hW : Below w.heap.size w W) => (⟨(hW.cell (p := ⟨b, fr * 5, none⟩) hb).trans u0, (hW.cell (p := ⟨b, fr * 5 + 1, none⟩) hb).trans u1, (hW.cell (p := ⟨b, fr * 5 + 2, none⟩) hb).trans u2, (hW.cell (p := ⟨b, fr * 5 + 3, none⟩) hb).trans u3, (hW.cell (p := ⟨b, fr * 5 + 4, none⟩) hb).trans u4⟩ :
    W.cell? ⟨b, fr * 5, none⟩ = some (.int .i64 y.tick) ∧ W.cell? ⟨b, fr * 5 + 1, none⟩ = some (.int .i64 y.load) ∧ W.cell? ⟨b, fr * 5 + 2, none⟩ = some (.int .i64 y.want) ∧ W.cell? ⟨b, fr * 5 + 3, none⟩ = some (.int .i64 y.repl) ∧ W.cell? ⟨b, fr * 5 + 4, none⟩ = some (.int .i64 y.why)))
  obtain ⟨c0, c1, c2⟩ := H0.out.cells
  have F1 := Lib.hid f1
  have F2 := Lib.hid f2
  have F3 := Lib.hid f3
  have F4 := Lib.hid f4
  have F5 := Lib.hid f5
  have d1 : ((room : Int) == 0) = false := by simp; omega
  have d2 : decide ((ph.length : Int) < (room : Int)) = false := by simp; omega
  have hlt2 : ¬ ph.length < room := by omega
  have hroom0 : ¬ room = 0 := by omega
  have hfl : fr < ph.length := by omega
  have HFl := Lib.hid hfl
  have hfi : (fr : Int) < (ph.length : Int) := by omega
  have HWr := Lib.hid (show IntKind.i64.wrap ((fr : Int) + 1) = (fr : Int) + 1 by rw [IntKind.wrap_i64]; omega)
  have HM := Lib.hid (show ((fr : Int) + 1).tmod (room : Int) = (((fr + 1) % room : Nat) : Int) by rw [← Int.natCast_one, ← Int.natCast_add, ← Int.ofNat_tmod])
  have HLn := Lib.hid hl
  clear h f1 f2 f3 f4 f5 hl hsl hy hb u0 u1 u2 u3 u4
  generalize (fr + 1) % room = fr2 at *
  go_enter Try.func91, Try.ntmps91
  go_upto_region 4 with (fail)
  go_quiet (fail)
  go_upto_region 7 with (fail)
  have F1 := Lib.hid (F1.out.drewN nq)
  have F2 := Lib.hid (F2.out.drewN nq)
  have F4 := Lib.hid (below_drewN F4.out nq)
  have F5 := Lib.hid (show ((push0 w x).drewN nq).heap.size = w.heap.size + 3 from F5.out)
  have H0 := Lib.hid (H0.out.call (below_drewN (Below.refl _ _) nq))
  clear d1 d2 hlt2 c0 c1 c2 F3
  generalize (push0 w x).drewN nq = w2 at *
  refine wp_region_any (by kernel_rfl) ?_; change wpAny _ _ _ _ _ _ _ (World.drew w2); refine any_of_anyG (late := fun _ => false) (S := fun wS => Below w2.heap.size w2 wS) _ _ _ _ ?_
  have S0 := (Below.refl w2.heap.size w2).drew
  refine anyG_takes (is := [0, 1, 2, 3, 4]) (vs := [_, _, _, .slice (some ⟨b, 0, none⟩) ph.length c, _]) (m := 7) (listed2 := #[true, true, true, true, true, false, false, false, false, false, false, false]) (a2 := ⟨#[_, _, _, _, _, _, _, _, _, _, _, _, _, _, _, _, _, _, _, _, _, _, _, _, _, _, _, _, _, _, _, _, _, _, _, _, _, _, _, _, _, _, _, _, _, _, _, _, _, _, _, _, _, _, _, _, _, _, _, _, _, _, _, _, _, _, _, _, _, _, _, _, _, _, _], _⟩) (by kernel_rfl) (fun j hj => by simp at hj) (by kernel_rfl) (fun _ _ _ _ _ h => h) (Ys.cons rfl (Or.inl ⟨by rfl, fun W1 hW1 => by first | rfl | (go_simp; done) | (go_simp; with_reducible rfl)⟩) (Ys.cons rfl (Or.inl ⟨by rfl, fun W1 hW1 => by first | rfl | (go_simp; done) | (go_simp; with_reducible rfl)⟩) (Ys.cons rfl (Or.inl ⟨by rfl, fun W1 hW1 => by first | rfl | (go_simp; done) | (go_simp; with_reducible rfl)⟩) (Ys.cons rfl (Or.inl ⟨by rfl, fun W1 hW1 => by have c := (H0.out.call hW1).cells.1; go_simp⟩) (Ys.cons rfl (Or.inl ⟨by rfl, fun W1 hW1 => by first | rfl | (go_simp; done) | (go_simp; with_reducible rfl)⟩) (Ys.nil)))))) (S0) (by rfl) (by rfl) ?_
  refine anyG_takes (is := [5, 6, 7, 8, 9]) (vs := [_, _, .int .i64 fr, .pointer (some ⟨b, fr * 5, none⟩), .agg (rowA y)]) (m := 2) (listed2 := #[true, true, true, true, true, true, true, true, true, true, false, false]) (a2 := ⟨#[_, _, _, _, _, _, _, _, _, _, _, _, _, _, _, _, _, _, _, _, _, _, _, _, _, _, _, _, _, _, _, _, _, _, _, _, _, _, _, _, _, _, _, _, _, _, _, _, _, _, _, _, _, _, _, _, _, _, _, _, _, _, _, _, _, _, _, _, _, _, _, _, _, _, _], _⟩) (by kernel_rfl) (fun j hj => by simp at hj) (by kernel_rfl) (fun _ _ _ _ _ h => h) (Ys.cons rfl (Or.inl ⟨by rfl, fun W1 hW1 => by first | rfl | (go_simp; done) | (go_simp; with_reducible rfl)⟩) (Ys.cons rfl (Or.inl ⟨by rfl, fun W1 hW1 => by first | rfl | (go_simp; done) | (go_simp; with_reducible rfl)⟩) (Ys.cons rfl (Or.inl ⟨by rfl, fun W1 hW1 => by have c := (H0.out.call hW1).cells.2.1; go_simp⟩) (Ys.cons rfl (Or.inl ⟨by rfl, fun W1 hW1 => by first | (go_simp; done) | (go_simp; intro hh; omega)⟩) (Ys.cons rfl (Or.inl ⟨by rfl, fun W1 hW1 => by obtain ⟨q0, q1, q2, q3, q4⟩ := HC.out _ (F4.out.trans (hW1.mono F4.out.size)); go_simp⟩) (Ys.nil)))))) (S0) (by rfl) (by rfl) ?_
  refine anyG_one (k := 10) (by kernel_rfl) rfl (by rfl) (fun Q2 hQ2 => ?_)
  have nG := new_at (S := S0) (zA) 26
  obtain ⟨G, hG, bG, lG⟩ := nG
  go_wp2_with fail
  refine hQ2 _ _ (fun _ => S0.alloc S0.size _) ?_
  clear hQ2 Q2
  (try simp only [hG])
  clear hG
  have SG := S0.alloc S0.size (.cells (zA) 26)
  refine anyG_one (k := 11) (by kernel_rfl) rfl (by rfl) (fun Q2 hQ2 => ?_); go_wp2_with (refine wpList_store_row rfl 26 (.tmp 7) _ rfl _ _ _ _ rfl rfl (bG) (by rfl) (by kernel_rfl) (by simp [Value.oneCell']) ?_; intro uG huG hwG); refine hQ2 _ _ (fun _ => SG.trans (Only.below hwG lG SG.size)) ?_; clear hQ2 Q2
  have SsG := SG.trans (Only.below hwG lG SG.size)
  refine anyG_done (by kernel_rfl) ?_ _
  have K1 := Lib.hid (F1.out.call SsG)
  have K2 := Lib.hid (F2.out.call SsG)
  have K4 := Lib.hid (F4.out.trans (SsG.mono F4.out.size))
  have K5 := Lib.hid SsG
  have KG := Lib.hid huG
  have KL := Lib.hid lG
  have K0 := Lib.hid (H0.out.call SsG)
  clear huG hwG SsG bG SG S0 H0 F1 F2 lG
  go_upto_region 8 with (fail)
  refine wp_region_any (by kernel_rfl) ?_; change wpAny _ _ _ _ _ _ _ (World.drew uG); refine any_of_anyG (late := fun j => [10].contains j) (S := fun wS => Below uG.heap.size uG wS) _ _ _ _ ?_
  have S0 := (Below.refl uG.heap.size uG).drew
  refine anyG_takes (is := [0, 1, 2, 3, 4]) (vs := [_, _, _, .slice (some ⟨b, 0, none⟩) ph.length c, _]) (m := 6) (listed2 := #[true, true, true, true, true, false, false, false, false, false, false]) (a2 := ⟨#[_, _, _, _, _, _, _, _, _, _, _, _, _, _, _, _, _, _, _, _, _, _, _, _, _, _, _, _, _, _, _, _, _, _, _, _, _, _, _, _, _, _, _, _, _, _, _, _, _, _, _, _, _, _, _, _, _, _, _, _, _, _, _, _, _, _, _, _, _, _, _, _, _, _, _], _⟩) (by kernel_rfl) (fun j hj => by first | (simp at hj; done) | (simp at hj; simp; omega)) (by kernel_rfl) (fun _ _ _ _ _ h => h) (Ys.cons rfl (Or.inl ⟨by rfl, fun W1 hW1 => by first | rfl | (go_simp; done) | (go_simp; with_reducible rfl)⟩) (Ys.cons rfl (Or.inl ⟨by rfl, fun W1 hW1 => by first | rfl | (go_simp; done) | (go_simp; with_reducible rfl)⟩) (Ys.cons rfl (Or.inl ⟨by rfl, fun W1 hW1 => by first | rfl | (go_simp; done) | (go_simp; with_reducible rfl)⟩) (Ys.cons rfl (Or.inl ⟨by rfl, fun W1 hW1 => by have c := (K0.out.call hW1).cells.1; go_simp⟩) (Ys.cons rfl (Or.inl ⟨by rfl, fun W1 hW1 => by first | rfl | (go_simp; done) | (go_simp; with_reducible rfl)⟩) (Ys.nil)))))) (S0) (by rfl) (by rfl) ?_
  refine anyG_takes (is := [5, 6, 7, 8, 9]) (vs := [_, _, .int .i64 fr, _, .pointer (some ⟨b, fr * 5, none⟩)]) (m := 1) (listed2 := #[true, true, true, true, true, true, true, true, true, true, false]) (a2 := ⟨#[_, _, _, _, _, _, _, _, _, _, _, _, _, _, _, _, _, _, _, _, _, _, _, _, _, _, _, _, _, _, _, _, _, _, _, _, _, _, _, _, _, _, _, _, _, _, _, _, _, _, _, _, _, _, _, _, _, _, _, _, _, _, _, _, _, _, _, _, _, _, _, _, _, _, _], _⟩) (by kernel_rfl) (fun j hj => by first | (simp at hj; done) | (simp at hj; simp; omega)) (by kernel_rfl) (fun _ _ _ _ _ h => h) (Ys.cons rfl (Or.inl ⟨by rfl, fun W1 hW1 => by first | rfl | (go_simp; done) | (go_simp; with_reducible rfl)⟩) (Ys.cons rfl (Or.inl ⟨by rfl, fun W1 hW1 => by first | rfl | (go_simp; done) | (go_simp; with_reducible rfl)⟩) (Ys.cons rfl (Or.inl ⟨by rfl, fun W1 hW1 => by have c := (K0.out.call hW1).cells.2.1; go_simp⟩) (Ys.cons rfl (Or.inl ⟨by rfl, fun W1 hW1 => exec_load (ty := 26) (x := .tmp 3) rfl rfl (run_loadAt_blk _ _ _ _ _ _ (K1.out.call hW1) Try.underlying26 rfl (by first | kernel_rfl | exact info_num _))⟩) (Ys.cons rfl (Or.inl ⟨by rfl, fun W1 hW1 => by first | (go_simp; done) | (go_simp; intro hh; omega)⟩) (Ys.nil)))))) (S0) (by rfl) (by rfl) ?_
  refine anyG_of_any _ _ _ _ (by kernel_rfl) ?_
  refine any_one (k := 10) (by kernel_rfl) rfl (by rfl) (fun Q2 hQ2 => ?_); go_wp2_with (refine wpList_store_mid rfl 26 (.tmp 60) (.tmp 59) rfl b (fr * 5) #[.int .i64 x.tick, .int .i64 x.load, .int .i64 x.want, .int .i64 x.repl, .int .i64 x.why] rfl rfl ((K0.out.call S0).2.1.set adv_len HFl.out x).2.2 (by kernel_rfl) (by simp [Value.oneCell']) ?_); (try refine hQ2 _ _ ?_); (try clear hQ2 Q2)
  refine wpAny_done (by kernel_rfl) ?_ _
  have D1 := Lib.hid (K0.out.call S0)
  have D2 := (D1.out.2.1.set adv_len HFl.out x)
  have hbg : g ≠ b := fun e => D1.out.2.2.1 (by rw [e]; rfl)
  have U8 := Lib.hid (((Upd.of_below (S := foot g (Value.slice (some ⟨b, 0, none⟩) ph.length c)) (K5.out.trans (S0.mono K5.out.size)))).grown D2.2.1 (fun k e => by cases e; exact .inl (.inr rfl)))
  have hbw := HLt.out b (.inr rfl)
  have M0 := Lib.hid (show RingAt (uG.drew.setCells b (fr * 5) [.int .i64 x.tick, .int .i64 x.load, .int .i64 x.want, .int .i64 x.repl, .int .i64 x.why]) g (.slice (some ⟨b, 0, none⟩) ph.length c) (ph.set fr x) fr room from
    ⟨D1.out.1.grown D2.2.1 (fun e => hbg (Option.some.inj e)), D2.1, D1.out.2.2.1, ⟨by rw [List.length_set]; exact HRI0.out.1, fun h => HRI0.out.2.1 (by rwa [List.length_set] at h), HRI0.out.2.2⟩⟩)
  have M2 := Lib.hid ((K2.out.call S0).grown D2.2.1 (fun e => by cases e; omega))
  have MG := Lib.hid ((KG.out.call S0).grown D2.2.1 (fun e => by cases e; have := KL.out; have := F5.out; omega))
  have e8 : uG.drew.setCells b (fr * 5) [.int .i64 x.tick, .int .i64 x.load, .int .i64 x.want, .int .i64 x.repl, .int .i64 x.why] = uG.drew.setCells b (fr * 5) x.cells := rfl
  rw [← e8] at U8 M2 MG
  clear D1 D2 e8 K0 K1 K2 K4 K5 KG
  generalize uG.drew.setCells b (fr * 5) [.int .i64 x.tick, .int .i64 x.load, .int .i64 x.want, .int .i64 x.repl, .int .i64 x.why] = w8 at *
  have q4 := M0.out.cells.2.1
  have q5 := M0.out.1.frozen 1
  go_upto_region 9 with (fail)
  refine wp_region_any (by kernel_rfl) ?_; change wpAny _ _ _ _ _ _ _ (World.drew w8); refine any_of_anyG (late := fun j => [13].contains j) (S := fun wS => Below w8.heap.size w8 wS) _ _ _ _ ?_
  have S0 := (Below.refl w8.heap.size w8).drew
  refine anyG_takes (is := [0, 1, 2, 3, 4]) (vs := [_, _, _, _, .int .i64 fr]) (m := 9) (listed2 := #[true, true, true, true, true, false, false, false, false, false, false, false, false, false]) (a2 := ⟨#[_, _, _, _, _, _, _, _, _, _, _, _, _, _, _, _, _, _, _, _, _, _, _, _, _, _, _, _, _, _, _, _, _, _, _, _, _, _, _, _, _, _, _, _, _, _, _, _, _, _, _, _, _, _, _, _, _, _, _, _, _, _, _, _, _, _, _, _, _, _, _, _, _, _, _], _⟩) (by kernel_rfl) (fun j hj => by first | (simp at hj; done) | (simp at hj; simp; omega)) (by kernel_rfl) (fun _ _ _ _ _ h => h) (Ys.cons rfl (Or.inl ⟨by rfl, fun W1 hW1 => by first | rfl | (go_simp; done) | (go_simp; with_reducible rfl)⟩) (Ys.cons rfl (Or.inl ⟨by rfl, fun W1 hW1 => by first | rfl | (go_simp; done) | (go_simp; with_reducible rfl)⟩) (Ys.cons rfl (Or.inl ⟨by rfl, fun W1 hW1 => by first | rfl | (go_simp; done) | (go_simp; with_reducible rfl)⟩) (Ys.cons rfl (Or.inl ⟨by rfl, fun W1 hW1 => by first | rfl | (go_simp; done) | (go_simp; with_reducible rfl)⟩) (Ys.cons rfl (Or.inl ⟨by rfl, fun W1 hW1 => by have c := (M0.out.call hW1).cells.2.1; go_simp⟩) (Ys.nil)))))) (S0) (by rfl) (by rfl) ?_
  refine anyG_takes (is := [5, 6, 7, 8, 9]) (vs := [.int .i64 ((fr : Int) + 1), _, _, _, .int .i64 room]) (m := 4) (listed2 := #[true, true, true, true, true, true, true, true, true, true, false, false, false, false]) (a2 := ⟨#[_, _, _, _, _, _, _, _, _, _, _, _, _, _, _, _, _, _, _, _, _, _, _, _, _, _, _, _, _, _, _, _, _, _, _, _, _, _, _, _, _, _, _, _, _, _, _, _, _, _, _, _, _, _, _, _, _, _, _, _, _, _, _, _, _, _, _, _, _, _, _, _, _, _, _], _⟩) (by kernel_rfl) (fun j hj => by first | (simp at hj; done) | (simp at hj; simp; omega)) (by kernel_rfl) (fun _ _ _ _ _ h => h) (Ys.cons rfl (Or.inl ⟨by rfl, fun W1 hW1 => by have hw := HWr.out; go_simp⟩) (Ys.cons rfl (Or.inl ⟨by rfl, fun W1 hW1 => by first | rfl | (go_simp; done) | (go_simp; with_reducible rfl)⟩) (Ys.cons rfl (Or.inl ⟨by rfl, fun W1 hW1 => by first | rfl | (go_simp; done) | (go_simp; with_reducible rfl)⟩) (Ys.cons rfl (Or.inl ⟨by rfl, fun W1 hW1 => by first | rfl | (go_simp; done) | (go_simp; with_reducible rfl)⟩) (Ys.cons rfl (Or.inl ⟨by rfl, fun W1 hW1 => by have c := (M0.out.call hW1).cells.2.2; go_simp⟩) (Ys.nil)))))) (S0) (by rfl) (by rfl) ?_
  refine anyG_takes (is := [10]) (vs := [.int .i64 fr2]) (m := 3) (listed2 := #[true, true, true, true, true, true, true, true, true, true, true, false, false, false]) (a2 := ⟨#[_, _, _, _, _, _, _, _, _, _, _, _, _, _, _, _, _, _, _, _, _, _, _, _, _, _, _, _, _, _, _, _, _, _, _, _, _, _, _, _, _, _, _, _, _, _, _, _, _, _, _, _, _, _, _, _, _, _, _, _, _, _, _, _, _, _, _, _, _, _, _, _, _, _, _], _⟩) (by kernel_rfl) (fun j hj => by first | (simp at hj; done) | (simp at hj; simp; omega)) (by kernel_rfl) (fun _ _ _ _ _ h => h) (Ys.cons rfl (Or.inl ⟨by rfl, fun W1 hW1 => by have hM := HM.out; go_simp⟩) (Ys.nil)) (S0) (by rfl) (by rfl) ?_
  refine anyG_one (k := 11) (by kernel_rfl) rfl (by rfl) (fun Q2 hQ2 => ?_); go_wp2_with fail; refine hQ2 _ _ (fun _ => S0) ?_; clear hQ2 Q2
  refine anyG_takes (is := [12]) (vs := [_]) (m := 1) (listed2 := #[true, true, true, true, true, true, true, true, true, true, true, true, true, false]) (a2 := ⟨#[_, _, _, _, _, _, _, _, _, _, _, _, _, _, _, _, _, _, _, _, _, _, _, _, _, _, _, _, _, _, _, _, _, _, _, _, _, _, _, _, _, _, _, _, _, _, _, _, _, _, _, _, _, _, _, _, _, _, _, _, _, _, _, _, _, _, _, _, _, _, _, _, _, _, _], _⟩) (by kernel_rfl) (fun j hj => by first | (simp at hj; done) | (simp at hj; simp; omega)) (by kernel_rfl) (fun _ _ _ _ _ h => h) (Ys.cons rfl (Or.inl ⟨by rfl, fun W1 hW1 => by first | rfl | (go_simp; done) | (go_simp; with_reducible rfl)⟩) (Ys.nil)) (S0) (by rfl) (by rfl) ?_
  refine anyG_of_any _ _ _ _ (by kernel_rfl) ?_
  refine any_one (k := 13) (by kernel_rfl) rfl (by rfl) (fun Q2 hQ2 => ?_); go_wp2_with fail; (try refine hQ2 _ _ ?_); (try clear hQ2 Q2)
  refine wpAny_done (by kernel_rfl) ?_ _
  have N0 := Lib.hid (show RingAt (w8.drew.setCell ⟨g, 1, none⟩ (.int .i64 fr2)) g (.slice (some ⟨b, 0, none⟩) ph.length c) (ph.set fr x) fr2 room from
    ⟨M0.out.1.drew.set_ 1 _, M0.out.2.1.drew_.far (fun k hk e => M0.out.2.2.1 (by rw [hk, e])) _, M0.out.2.2.1, HRI.out⟩)
  have U9 := Lib.hid ((U8.out.drew).setCell (p := ⟨g, 1, none⟩) (.inl (.inl rfl)) (.int .i64 fr2))
  have hgw := HLt.out g (.inl rfl)
  have N2 := Lib.hid (M2.out.drew.far (p := ⟨g, 1, none⟩) (by show w.heap.size + 1 ≠ g; omega) (.int .i64 fr2))
  have NG := Lib.hid (MG.out.drew.far (p := ⟨g, 1, none⟩) (by show G ≠ g; have := KL.out; have := F5.out; omega) (.int .i64 fr2))
  clear M0 U8 M2 MG q4 q5
  have e10 : w8.drew.setCell ⟨g, 1, none⟩ (.int .i64 fr2) = (w8.setCell ⟨g, 1, none⟩ (.int .i64 fr2)).drew := rfl
  rw [e10] at N0 U9 N2 NG
  clear e10
  generalize (w8.setCell ⟨g, 1, none⟩ (.int .i64 fr2)).drew = w10 at *
  go_wp2_with (first | (refine Blk.load rfl 26 (.tmp 7) rfl G _ _ _ rfl NG.out Try.underlying26 rfl (by kernel_rfl) ?_) | (refine wpList_store_row rfl 26 (.tmp 4) (.tmp 74) rfl (w.heap.size + 1) _ _ _ rfl rfl N2.out (by rfl) (by kernel_rfl) (by simp [Value.oneCell']) ?_; intro w9 hb9 hg9; have HB9 := Lib.hid hb9; have HG9 := Lib.hid hg9; clear hb9 hg9))
  refine bodyPost_ret (results_row_tmp rfl _ _ (w.heap.size + 1) _ _ _ rfl HB9.out Try.underlying26 rfl (by kernel_rfl)) rfl ⟨_, _, _, rfl, push_done F4.out F5.out HLt.out N0.out U9.out (fun k hk => .inl hk) HG9.out⟩
end Go.Proofs.Ytjodpffdlggjgaa
