/- Patterns: what Compile and Is tell, whichever the text; awake. -/
import Derived.Test.YtplmdgimodgekaaPatH
namespace Go.Proofs.Ytplmdgimodgekaa
open Go.RowKit Go.Proofs.YtplmdgimodgekaaW.PrintWords Go.Proofs.YtplmdgimodgekaaW.PrintLast Go.Proofs.YtplmdgimodgekaaW.PrintMore
attribute [local go_sem] max2_int min2_int max_two min_two max_three min_three max_four min_four   -- for this text's walks alone
set_option linter.unusedVariables false
set_option linter.unusedSimpArgs false
/-- What Compile has told of a text. -/
def CpV (W : World) (pv : Value) (ev : Int) (L : List Int) (fold : Bool) : Prop := (compP L = none ∧ pv = .pointer none ∧ ev = 29) ∨ ∃ g chs, compP L = some chs ∧ pv = .pointer (some ⟨g, 0, none⟩) ∧ ev = 0 ∧ PatV W g chs fold ∧ ChOk chs
theorem CpV.below {W W1 : World} {pv : Value} {ev : Int} {L : List Int} {fold : Bool} (h : CpV W pv ev L fold) (hb : Below W.heap.size W W1) : CpV W1 pv ev L fold := by
  rcases h with h | ⟨g, chs, h1, h2, h3, h4, h5⟩
  · exact .inl h
  · exact .inr ⟨g, chs, h1, h2, h3, h4.below hb, h5⟩
theorem CpV.err {W : World} {pv : Value} {ev : Int} {L : List Int} {fold : Bool} (h : CpV W pv ev L fold) : (ev = 0 ↔ (compP L).isSome = true) ∧ (ev = 0 ∨ ev = 29) := by
  rcases h with ⟨h1, h2, h3⟩ | ⟨g, chs, h1, h2, h3, h4, h5⟩
  · rw [h1, h3]; decide
  · rw [h1, h3]; exact ⟨⟨fun _ => rfl, fun _ => rfl⟩, .inl rfl⟩
/-- For which texts a pattern's text stands. -/
def pvI (L : List Int) (fold : Bool) (s : List Int) : Bool := match compP L with | none => false | some chs => patIs fold chs s
theorem pCompile_any (L : List Int) (fold : Bool) (S : ByteArray) (w : World) (hS : S = strOfNums L) (hib : isB L) (hL : L.length ≤ 100000) :
    Calls Try.prog 16 #[.string S, .bool fold] w fun e w' => ∃ pv ev, e = .returned (.tuple #[pv, .int .i64 ev]) ∧ CpV w' pv ev L fold ∧ Below w.heap.size w w' := by
  subst hS
  refine (pCompile_calls w L fold hib hL).mono ?_
  rintro e w1 ⟨hb, h⟩
  rcases h with ⟨h1, h2⟩ | ⟨g, chs, h1, h2, h3⟩
  · exact ⟨_, _, h2, .inl ⟨h1, rfl, rfl⟩, hb⟩
  · exact ⟨_, _, h2, .inr ⟨g, chs, h1, rfl, rfl, h3, ChOk.of hib h1⟩, hb⟩
theorem pIs_any (w : World) (pv : Value) (ev : Int) (L : List Int) (fold : Bool) (s : List Int) (S : ByteArray) (h : CpV w pv ev L fold) (hS : S = strOfNums s) (hib : isB s) (hs : s.length ≤ 100000) :
    Calls Try.prog 18 #[pv, .string S] w fun e w' => e = .returned (.bool (pvI L fold s)) ∧ Below w.heap.size w w' := by
  subst hS
  unfold pvI
  rcases h with ⟨h1, rfl, h3⟩ | ⟨g, chs, h1, rfl, h3, h4, h5⟩
  · rw [h1]
    refine (pIs_nil w _).mono ?_
    rintro e w1 ⟨rfl, rfl⟩
    exact ⟨rfl, Below.refl _ _⟩
  · rw [h1]
    exact pIs_some w g chs s fold h4 h5 hib hs
def awL : List Int := [97, 42, 91, 48, 45, 57, 93]
theorem awL_isB : isB awL := fun x hx => by simp [awL] at hx; omega
theorem aw_e : (compP awL).isSome = true := by decide +kernel
theorem aw_1 : pvI awL false [97, 98, 55] = true := by decide +kernel
theorem aw_2 : pvI awL false [97, 98] = false := by decide +kernel
set_option maxHeartbeats 8000000 in
set_option maxRecDepth 100000 in
theorem pat_awake_calls (w : World) : Calls Try.prog 15 #[] w fun e w' => e = .returned (.bool true) ∧ Below w.heap.size w w' := by
  have HIB := Aside0.mk awL_isB
  go_enter Try.func15, Try.ntmps15
  go_wp2_with fail
  refine (pCompile_any awL false _ _ rfl HIB.out (by decide)).mono ?_
  rintro e w1 ⟨pv, ev, rfl, hc, hb⟩
  have he : ev = 0 := hc.err.1.2 aw_e
  subst he
  have HC := Aside0.mk hc
  have HB := Aside0.mk hb
  clear hc hb
  go_wp2_with fail
  refine (pIs_any _ pv 0 awL false [97, 98, 55] _ HC.out rfl (fun x hx => by simp at hx; omega) (by decide)).mono ?_
  rintro e w2 ⟨rfl, hb⟩
  have HC2 := Aside0.mk (HC.out.below hb)
  have HB2 := Aside0.mk (below_step HB.out hb)
  rw [aw_1]
  clear hb
  go_wp2_with fail
  refine (pIs_any _ pv 0 awL false [97, 98] _ HC2.out rfl (fun x hx => by simp at hx; omega) (by decide)).mono ?_
  rintro e w3 ⟨rfl, hb⟩
  have HB3 := Aside0.mk (below_step HB2.out hb)
  rw [aw_2]
  clear hb
  go_wp2_with fail
  go_ret
  exact ⟨rfl, HB3.out⟩
end Go.Proofs.Ytplmdgimodgekaa
