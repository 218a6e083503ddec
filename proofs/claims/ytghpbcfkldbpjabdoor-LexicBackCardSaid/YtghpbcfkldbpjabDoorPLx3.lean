/- The machine side of this seat's laws: plain functions, and proofs that the calls do what they say; written by a program of this session over the translation; no conditions beyond those typed. -/
import Derived.Test.YtghpbcfkldbpjabDoorPLx0
namespace Go.Proofs.YtghpbcfkldbpjabDoor.PL
open Go.RowKit Go.Proofs.YtghpbcfkldbpjabDoorW.PrintWords Go.Proofs.YtghpbcfkldbpjabDoorW.PrintLast Go.Proofs.YtghpbcfkldbpjabDoorW.PrintMore
attribute [local go_sem] max2_int min2_int max_two min_two max_three min_three max_four min_four   -- for this text's walks alone
set_option linter.unusedVariables false
set_option linter.unusedSimpArgs false

/-! ### lexic_small: function 32 -/
def lexic_small.f (a0 : Int) : Option (Bool) := if a0 ≥ 97 then (some (decide (a0 ≤ 122))) else (some false)
set_option maxHeartbeats 8000000 in
set_option maxRecDepth 100000 in
theorem lexic_small.calls (a0 : Int) (r : Bool) (w : World) (h : lexic_small.f a0 = some r) :
    Calls Tryd.prog 32 #[.int .u8 a0] w fun e w' => e = .returned (.bool r) ∧ Drawn0 w w' := by
  have H : (if a0 ≥ 97 then (some (decide (a0 ≤ 122))) else (some false)) = some r := h
  clear h
  by_cases c2 : a0 ≥ 97
  · rw [if_pos c2] at H
    have c2b0 : decide (97 ≤ a0) = true := decide_eq_true c2
    clear c2
    obtain rfl := Option.some.inj H
    go_enter Tryd.func32, Tryd.ntmps32
    go_wp2
    go_ret
    exact ⟨by first | rfl | (simp; done) | (simp [*]; done), by repeat (first | exact Drawn0.refl _ | apply Drawn0.step)⟩
  · rw [if_neg c2] at H
    have c2b0 : decide (97 ≤ a0) = false := decide_eq_false c2
    clear c2
    obtain rfl := Option.some.inj H
    go_enter Tryd.func32, Tryd.ntmps32
    go_wp2
    go_ret
    exact ⟨by first | rfl | (simp; done) | (simp [*]; done), by repeat (first | exact Drawn0.refl _ | apply Drawn0.step)⟩

/-! ### lexic_digit: function 34 -/
def lexic_digit.f (a0 : Int) : Option (Bool) := if a0 ≥ 48 then (some (decide (a0 ≤ 57))) else (some false)
set_option maxHeartbeats 8000000 in
set_option maxRecDepth 100000 in
theorem lexic_digit.calls (a0 : Int) (r : Bool) (w : World) (h : lexic_digit.f a0 = some r) :
    Calls Tryd.prog 34 #[.int .u8 a0] w fun e w' => e = .returned (.bool r) ∧ Drawn0 w w' := by
  have H : (if a0 ≥ 48 then (some (decide (a0 ≤ 57))) else (some false)) = some r := h
  clear h
  by_cases c2 : a0 ≥ 48
  · rw [if_pos c2] at H
    have c2b0 : decide (48 ≤ a0) = true := decide_eq_true c2
    clear c2
    obtain rfl := Option.some.inj H
    go_enter Tryd.func34, Tryd.ntmps34
    go_wp2
    go_ret
    exact ⟨by first | rfl | (simp; done) | (simp [*]; done), by repeat (first | exact Drawn0.refl _ | apply Drawn0.step)⟩
  · rw [if_neg c2] at H
    have c2b0 : decide (48 ≤ a0) = false := decide_eq_false c2
    clear c2
    obtain rfl := Option.some.inj H
    go_enter Tryd.func34, Tryd.ntmps34
    go_wp2
    go_ret
    exact ⟨by first | rfl | (simp; done) | (simp [*]; done), by repeat (first | exact Drawn0.refl _ | apply Drawn0.step)⟩

/-! ### lexic_word: function 35 -/
def lexic_word.isSmall (c : Int) : Bool := decide (97 ≤ c) && decide (c ≤ 122)
def lexic_word.isDigit (c : Int) : Bool := decide (48 ≤ c) && decide (c ≤ 57)
/-- No letter of a word: what the code's function tells of a rune. -/
def lexic_word.no (r : Nat) : Bool := decide (127 < r) || (!lexic_word.isSmall (r % 256 : Nat) && !lexic_word.isDigit (r % 256 : Nat))
/-- Is a text a word? As the code asks it. -/
def lexic_word.f (s : ByteArray) : Option Bool :=
  if s.toList = [] then some false else if s.size > 16 then some false else
    if lexic_word.isSmall (bt s 0) = true then some (decide (Lib.idxFunc lexic_word.no true s < 0)) else some false
theorem lexic_word.small (c : Int) (w : World) : Calls Tryd.prog 32 #[.int .u8 c] w fun e w' => e = .returned (.bool (lexic_word.isSmall c)) ∧ Drawn0 w w' := by
  unfold lexic_word.isSmall
  by_cases h : c ≥ 97
  · exact (lexic_small.calls c (decide (c ≤ 122)) w (by rw [lexic_small.f, if_pos h])).mono fun e w' ⟨he, hw⟩ => ⟨by rw [he, decide_eq_true h, Bool.true_and], hw⟩
  · exact (lexic_small.calls c false w (by rw [lexic_small.f, if_neg h])).mono fun e w' ⟨he, hw⟩ => ⟨by rw [he, decide_eq_false h, Bool.false_and], hw⟩
theorem lexic_word.digit (c : Int) (w : World) : Calls Tryd.prog 34 #[.int .u8 c] w fun e w' => e = .returned (.bool (lexic_word.isDigit c)) ∧ Drawn0 w w' := by
  unfold lexic_word.isDigit
  by_cases h : c ≥ 48
  · exact (lexic_digit.calls c (decide (c ≤ 57)) w (by rw [lexic_digit.f, if_pos h])).mono fun e w' ⟨he, hw⟩ => ⟨by rw [he, decide_eq_true h, Bool.true_and], hw⟩
  · exact (lexic_digit.calls c false w (by rw [lexic_digit.f, if_neg h])).mono fun e w' ⟨he, hw⟩ => ⟨by rw [he, decide_eq_false h, Bool.false_and], hw⟩
set_option maxHeartbeats 1000000 in
theorem lexic_word.pred (w : World) : PredAt Tryd.prog 42 #[] encR lexic_word.no w := fun W r _ => by
  unfold FnGives
  show Calls Tryd.prog 42 #[.int .i32 (r : Int)] W _
  have hS := Aside0.mk (fun (c : Int) (W : World) => lexic_word.small c W)
  have hD := Aside0.mk (fun (c : Int) (W : World) => lexic_word.digit c W)
  by_cases h1 : 127 < r
  · have d1 : decide ((127 : Int) < (r : Int)) = true := decide_eq_true (by omega)
    have d2 : decide (127 < r) = true := decide_eq_true h1
    have e : lexic_word.no r = true := by unfold lexic_word.no; rw [d2, Bool.true_or]
    rw [e]
    clear e
    go_enter Tryd.func42, Tryd.ntmps42
    go_wp2
    go_ret
    exact ⟨rfl, 0, rfl⟩
  · have d1 : decide ((127 : Int) < (r : Int)) = false := decide_eq_false (by omega)
    have d2 : decide (127 < r) = false := decide_eq_false h1
    have hr : (r : Int) % 256 = (r : Int) := by omega
    have hr0 : 0 ≤ (r : Int) := by omega
    have hr1 : (r : Int) ≤ 127 := by omega
    have e : lexic_word.no r = (!lexic_word.isSmall (r : Int) && !lexic_word.isDigit (r : Int)) := by
      unfold lexic_word.no; rw [d2, Bool.false_or, show ((r % 256 : Nat) : Int) = (r : Int) by omega]
    rw [e]
    clear e
    cases g1 : lexic_word.isSmall (r : Int) with
    | true =>
      have hS1 := fun W => lexic_word.small (r : Int) W
      rw [g1] at hS1
      have HS := Aside0.mk hS1
      clear hS1 hS hD g1
      go_enter Tryd.func42, Tryd.ntmps42
      go_wp2_with (go_at_call 32; (with_reducible refine (HS.out _).mono ?_); rintro e w1 ⟨rfl, ⟨n1, rfl⟩⟩)
      go_ret
      exact ⟨by simp, _, rfl⟩
    | false =>
      have hS1 := fun W => lexic_word.small (r : Int) W
      rw [g1] at hS1
      have HS := Aside0.mk hS1
      have HD := Aside0.mk (fun W => lexic_word.digit (r : Int) W)
      clear hS1 hS hD g1
      generalize lexic_word.isDigit (r : Int) = b at HD ⊢
      go_enter Tryd.func42, Tryd.ntmps42
      go_wp2_with (first | (go_at_call 32; (with_reducible refine (HS.out _).mono ?_); rintro e w1 ⟨rfl, ⟨n1, rfl⟩⟩) | (go_at_call 34; (with_reducible refine (HD.out _).mono ?_); rintro e w1 ⟨rfl, ⟨n2, rfl⟩⟩))
      go_ret
      exact ⟨by simp, _, rfl⟩
theorem lexic_word.index (s : ByteArray) (w : World) : Calls Tryd.prog 41 #[.string s, .func (.func 42) #[] #[]] w fun e w' => e = .returned (.int .i64 (Lib.idxFunc lexic_word.no true s)) ∧ Below w.heap.size w w' :=
  Any.strings_IndexFunc Tryd.laysGgw_15 42 #[] (enters_of Tryd.func42 (by kernel_rfl) rfl) lexic_word.no s w (lexic_word.pred w)
set_option maxHeartbeats 1000000 in
theorem lexic_word.calls (s : ByteArray) (r : Bool) (w : World) (h : lexic_word.f s = some r) :
    Calls Tryd.prog 35 #[.string s] w fun e w' => e = .returned (.bool r) ∧ Below w.heap.size w w' := by
  unfold lexic_word.f at h
  by_cases c1 : s.toList = []
  · rw [if_pos c1] at h
    obtain rfl := Option.some.inj h
    have d1 : s.toList.isEmpty = true := by rw [c1]; rfl
    have d2 : (s.toList == []) = true := by rw [c1]; rfl
    clear c1 h
    go_enter Tryd.func35, Tryd.ntmps35
    go_wp2
    go_ret
    exact ⟨rfl, Below.refl _ _⟩
  rw [if_neg c1] at h
  have d1 : s.toList.isEmpty = false := by rw [List.isEmpty_eq_false_iff]; exact c1
  have d2 : (s.toList == []) = false := by rw [beq_eq_false_iff_ne]; exact c1
  have q : 0 < s.size := by
    rw [ByteArray.toList_eq] at c1
    have := List.length_pos_iff.2 c1
    rw [Array.length_toList] at this; exact this
  by_cases c2 : s.size > 16
  · rw [if_pos c2] at h
    obtain rfl := Option.some.inj h
    have d3 : decide (16 < s.size) = true := decide_eq_true c2
    have d4 : decide (16 < (s.size : Int)) = true := decide_eq_true (by omega)
    clear c1 h c2 q
    go_enter Tryd.func35, Tryd.ntmps35
    go_wp2
    go_ret
    exact ⟨rfl, Below.refl _ _⟩
  rw [if_neg c2] at h
  have d3 : decide (16 < s.size) = false := decide_eq_false c2
  have d4 : decide (16 < (s.size : Int)) = false := decide_eq_false (by omega)
  have hx : ∀ h : 0 < s.size, ((s[0]'h).toNat : Int) = bt s 0 := bt_at s 0
  have qi : (0 < (s.size : Int)) = True := eq_true (by omega)
  have hS1 := fun W => lexic_word.small (bt s 0) W
  by_cases c3 : lexic_word.isSmall (bt s 0) = true
  · rw [if_pos c3] at h
    rw [c3] at hS1
    obtain rfl := Option.some.inj h
    have HI := Aside0.mk (fun W => lexic_word.index s W)
    have HS := Aside0.mk hS1
    generalize Lib.idxFunc lexic_word.no true s = i at HI ⊢
    clear c1 c3 h hS1
    go_enter Tryd.func35, Tryd.ntmps35; go_wp2_with (first | (go_at_call 32; (with_reducible refine (HS.out _).mono ?_); rintro e w1 ⟨rfl, ⟨n1, rfl⟩⟩) | (go_at_call 41; (with_reducible refine (HI.out _).mono ?_); rintro e w2 ⟨rfl, hb⟩)); go_ret
    exact ⟨rfl, (Drawn0.below ⟨⟨n1, rfl⟩⟩).trans hb⟩
  · rw [if_neg c3] at h
    rw [Bool.not_eq_true] at c3
    rw [c3] at hS1
    obtain rfl := Option.some.inj h
    have HI := trivial
    have HS := Aside0.mk hS1
    clear c1 c3 h hS1
    go_enter Tryd.func35, Tryd.ntmps35
    go_wp2_with (go_at_call 32; (with_reducible refine (HS.out _).mono ?_); rintro e w1 ⟨rfl, ⟨n1, rfl⟩⟩)
    go_ret
    exact ⟨rfl, Drawn0.below ⟨⟨n1, rfl⟩⟩⟩

/-! ### lexic_number: function 27 -/
/-- Is a text a number? As the code asks it. -/
def lexic_number.f (s : ByteArray) : Option Bool :=
  if s.toList = [] then some false else if s.size > 16 then some false else
    if bt s 0 = 48 then (if s.toList = [48] then some (Lib.trimS s.data.toList [48, 49, 50, 51, 52, 53, 54, 55, 56, 57]).isEmpty else some false)
    else some (Lib.trimS s.data.toList [48, 49, 50, 51, 52, 53, 54, 55, 56, 57]).isEmpty
theorem lexic_number.trim (s : ByteArray) (w : World) (hs : s.size ≤ 9223372036854775807) : Calls Tryd.prog 37 #[.string s, .string (⟨#[48, 49, 50, 51, 52, 53, 54, 55, 56, 57]⟩ : ByteArray)] w fun e w' => e = .returned (.string ⟨(Lib.trimS s.data.toList [48, 49, 50, 51, 52, 53, 54, 55, 56, 57]).toArray⟩) ∧ Below w.heap.size w w' :=
  Any.strings_Trim_laid Tryd.laysNm_160 (by kernel_rfl) s ⟨#[48, 49, 50, 51, 52, 53, 54, 55, 56, 57]⟩ w hs (by decide) (ascii_of_all (by decide))
set_option maxHeartbeats 1000000 in
theorem lexic_number.calls (s : ByteArray) (r : Bool) (w : World) (h : lexic_number.f s = some r) :
    Calls Tryd.prog 27 #[.string s] w fun e w' => e = .returned (.bool r) ∧ Below w.heap.size w w' := by
  unfold lexic_number.f at h
  by_cases c1 : s.toList = []
  · rw [if_pos c1] at h
    obtain rfl := Option.some.inj h
    have d1 : s.toList.isEmpty = true := by rw [c1]; rfl
    have d2 : (s.toList == []) = true := by rw [c1]; rfl
    have hT := trivial
    clear c1 h
    go_enter Tryd.func27, Tryd.ntmps27
    go_wp2
    go_ret
    exact ⟨rfl, Below.refl _ _⟩
  rw [if_neg c1] at h
  have d1 : s.toList.isEmpty = false := by rw [List.isEmpty_eq_false_iff]; exact c1
  have d2 : (s.toList == []) = false := by rw [beq_eq_false_iff_ne]; exact c1
  have q : 0 < s.size := by
    rw [ByteArray.toList_eq] at c1
    have := List.length_pos_iff.2 c1
    rw [Array.length_toList] at this; exact this
  by_cases c2 : s.size > 16
  · rw [if_pos c2] at h
    obtain rfl := Option.some.inj h
    have d3 : decide (16 < s.size) = true := decide_eq_true c2
    have d4 : decide (16 < (s.size : Int)) = true := decide_eq_true (by omega)
    clear c1 h c2 q
    go_enter Tryd.func27, Tryd.ntmps27
    go_wp2
    go_ret
    exact ⟨rfl, Below.refl _ _⟩
  rw [if_neg c2] at h
  have d3 : decide (16 < s.size) = false := decide_eq_false c2
  have d4 : decide (16 < (s.size : Int)) = false := decide_eq_false (by omega)
  have hx : ∀ h : 0 < s.size, ((s[0]'h).toNat : Int) = bt s 0 := bt_at s 0
  have qi : (0 < (s.size : Int)) = True := eq_true (by omega)
  obtain ⟨t, ht, hT⟩ : ∃ t : ByteArray, t.toList.isEmpty = (Lib.trimS s.data.toList [48, 49, 50, 51, 52, 53, 54, 55, 56, 57]).isEmpty ∧ Aside0 (∀ W, Calls Tryd.prog 37 #[.string s, .string (⟨#[48, 49, 50, 51, 52, 53, 54, 55, 56, 57]⟩ : ByteArray)] W fun e w' => e = .returned (.string t) ∧ Below W.heap.size W w') :=
    ⟨_, by rw [ByteArray.toList_eq], ⟨fun W => lexic_number.trim s W (by omega)⟩⟩
  rw [← ht] at h
  clear ht c2
  by_cases c3 : bt s 0 = 48
  · rw [if_pos c3] at h
    have d5 : (bt s 0 == 48) = true := beq_iff_eq.mpr c3
    have d6 : (bt s 0 != 48) = false := bne_eq_false_iff_eq.mpr c3
    by_cases c4 : s.toList = [48]
    · rw [if_pos c4] at h
      obtain rfl := Option.some.inj h
      have d7 : (s.toList == [48]) = true := beq_iff_eq.mpr c4
      have d8 : (s.toList != [48]) = false := bne_eq_false_iff_eq.mpr c4
      clear c1 c3 c4 h
      go_enter Tryd.func27, Tryd.ntmps27; go_wp2_with (go_at_call 37; (with_reducible refine (hT.out _).mono ?_); rintro e w1 ⟨rfl, hb⟩); go_ret
      exact ⟨by simp, hb⟩
    · rw [if_neg c4] at h
      obtain rfl := Option.some.inj h
      have d7 : (s.toList == [48]) = false := beq_eq_false_iff_ne.mpr c4
      have d8 : (s.toList != [48]) = true := bne_iff_ne.mpr c4
      clear c1 c3 c4 h
      go_enter Tryd.func27, Tryd.ntmps27
      go_wp2
      go_ret
      exact ⟨rfl, Below.refl _ _⟩
  · rw [if_neg c3] at h
    obtain rfl := Option.some.inj h
    have d5 : (bt s 0 == 48) = false := beq_eq_false_iff_ne.mpr c3
    have d6 : (bt s 0 != 48) = true := bne_iff_ne.mpr c3
    clear c1 c3 h
    go_enter Tryd.func27, Tryd.ntmps27; go_wp2_with (go_at_call 37; (with_reducible refine (hT.out _).mono ?_); rintro e w1 ⟨rfl, hb⟩); go_ret
    exact ⟨by simp, hb⟩

end Go.Proofs.YtghpbcfkldbpjabDoor.PL
