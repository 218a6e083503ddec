/- The machine side of this seat's laws: plain functions, and proofs that the calls do what they say; written by a program of this session over the translation; no conditions beyond those typed. -/
import Derived.Test.YtlaeihdldofkcaaDoorPMx0
import Derived.Test.YtlaeihdldofkcaaDoorPMx2
import Derived.Test.YtlaeihdldofkcaaDoorPMx3
namespace Go.Proofs.YtlaeihdldofkcaaDoor.PN
open Go.RowKit Go.Proofs.YtlaeihdldofkcaaDoorW.PrintWords Go.Proofs.YtlaeihdldofkcaaDoorW.PrintLast Go.Proofs.YtlaeihdldofkcaaDoorW.PrintMore
attribute [local go_sem] max2_int min2_int max_two min_two max_three min_three max_four min_four   -- for this text's walks alone
set_option linter.unusedVariables false
set_option linter.unusedSimpArgs false

/-! ### seal_eight: function 43 -/
def seal_eight.cs (n : Int) (i : Nat) : List Value := (List.range 8).map fun (j : Nat) => Value.int .u8 (if j < i then n / 256 ^ j % 256 else 0)
theorem seal_eight.cs_len (n : Int) (i : Nat) : (seal_eight.cs n i).length = 8 := by simp [seal_eight.cs]
theorem seal_eight.cs_set (n : Int) (i : Nat) (h : i < 8) : (seal_eight.cs n i).set i (.int .u8 (n / 256 ^ i % 256)) = seal_eight.cs n (i + 1) := by
 unfold seal_eight.cs
 apply List.ext_getElem?
 intro j
 by_cases hj : j < 8
 ·by_cases e : i = j
  ·subst e
   rw [List.getElem?_set_self (by simp; omega), List.getElem?_map, List.getElem?_range (by omega)]
   simp
  ·rw [List.getElem?_set_ne e, List.getElem?_map, List.getElem?_map, List.getElem?_range hj]
   simp only [Option.map_some]
   have : (j < i + 1) = (j < i) := by rw [eq_iff_iff]; omega
   simp [this]
 ·rw [List.getElem?_eq_none (by simp; omega), List.getElem?_eq_none (by simp; omega)]
theorem seal_eight.cs_get (n : Int) (m i : Nat) (h : i < 8) : (seal_eight.cs n m).toArray[i]? = some (.int .u8 (if i < m then n / 256 ^ i % 256 else 0)) := by
 rw [List.getElem?_toArray]
 unfold seal_eight.cs
 rw [List.getElem?_map, List.getElem?_range h]
 rfl
theorem seal_eight.pw (i : Nat) : (2 : Int) ^ (8 * i) = 256 ^ i := by rw [Int.pow_mul]; rfl
def seal_eight.l (n : Int) : List Int := (List.range 8).map fun (j : Nat) => n / 256 ^ j % 256
theorem seal_eight.cs_l (n : Int) : seal_eight.cs n 8 = (seal_eight.l n).map (Value.int .u8) := by
 unfold seal_eight.cs seal_eight.l
 rw [List.map_map]
 apply List.map_congr_left
 intro j hj
 rw [List.mem_range] at hj
 simp [hj]
def seal_eight.f (a0 : Int) : Option ByteArray := if 0 ≤ a0 ∧ a0 < 18446744073709551616 then some (strOfNums (seal_eight.l a0)) else none
set_option maxHeartbeats 4000000 in
set_option maxRecDepth 100000 in
theorem seal_eight.calls (a0 : Int) (r : ByteArray) (w : World) (h : seal_eight.f a0 = some r) : Calls Tryd.prog 43 #[.int .u64 a0] w fun e w' => e = .returned (.string r) ∧ Below w.heap.size w w' := by
 unfold seal_eight.f at h
 by_cases hb : 0 ≤ a0 ∧ a0 < 18446744073709551616
 case neg => rw [if_neg hb] at h; cases h
 rw [if_pos hb] at h
 obtain rfl := Option.some.inj h
 have HB := Aside0.mk (Below.refl w.heap.size w)
 obtain ⟨hb0, hb1⟩ := hb
 have HN := Aside0.mk hb1
 clear h hb1
 go_enter Tryd.func43, Tryd.ntmps43
 go_wp2_with (first | ((with_reducible refine gate_dst (N := 3) rfl ?_); refine box_event ?hg (N := 3) ?hd (cs := #[.int .u8 0, .int .u8 0, .int .u8 0, .int .u8 0, .int .u8 0, .int .u8 0, .int .u8 0, .int .u8 0]) (t := 90) ?hr ?_; (case hd => rfl); (case hg => rfl); (case hr => (go_simp; done)); intro gb3 hg wb3 hbox hb; have n0_ := Aside0.mk (below_step (HB.out) hb); have n3_ := Aside0.mk ((by rw [hg]; exact (below_size (HB.out)) : w.heap.size ≤ gb3)); have BK3 := Aside0.mk hbox; clear HB; have HB := n0_; have GE3 := n3_; clear n0_ n3_; clear hb hbox hg; obtain ⟨hc3_0, hf3_0, hc3_1, hf3_1, hc3_2, hf3_2, hc3_3, hf3_3, hc3_4, hf3_4, hc3_5, hf3_5, hc3_6, hf3_6, hc3_7, hf3_7⟩ := be8 BK3.out))
 clear hc3_0 hf3_0 hc3_1 hf3_1 hc3_2 hf3_2 hc3_3 hf3_3 hc3_4 hf3_4 hc3_5 hf3_5 hc3_6 hf3_6 hc3_7 hf3_7
 go_loopg [5] 8 (fun kq v5 w' => ∃ (i : Nat), v5 = .int .i64 (i : Int) ∧ Aside0 (kq = 8 - i) ∧ Aside0 (i ≤ 8) ∧ Aside0 (w'.heap[gb3]? = some (.cells (seal_eight.cs a0 i).toArray 90 (0, 0))) ∧ Aside0 (Below w.heap.size w w'))
 case atStart => exact ⟨0, rfl, ⟨rfl⟩, ⟨Nat.zero_le _⟩, ⟨BK3.out⟩, ⟨HB.out⟩⟩
 case round =>
  clear BK3 HB
  obtain ⟨i, rfl, HK, HI, BK3, HB⟩ := hrel
  by_cases hlt : i < 8
  ·have d1 : decide ((i : Int) < 8) = true := decide_eq_true (by omega)
   have d2 : (0 ≤ (i : Int)) = True := eq_true (by omega)
   have d3 : ((i : Int) < 8) = True := eq_true (by omega)
   have hm : wr.cell? ⟨gb3, i, none⟩ = some (.int .u8 (if i < i then a0 / 256 ^ i % 256 else 0)) := (blk_cell BK3.out i).trans (seal_eight.cs_get a0 i i hlt)
   have hmf := blk_frozen BK3.out i
   have hset := seal_eight.cs_set a0 i hlt
   have HLT := Aside0.mk hlt
   have HSET := Aside0.mk hset
   clear hset
   go_wp2
   obtain ⟨k, hk⟩ : ∃ k, 8 - i = k + 1 := ⟨8 - i - 1, by have := HLT.out; omega⟩
   go_roundg k
   case measure => have := HK.out; omega
   case rel => exact ⟨i + 1, rfl, ⟨by omega⟩, ⟨by have := HLT.out; omega⟩, ⟨by rw [← HSET.out, ← seal_eight.pw]; exact blk_put BK3.out _ _ (by simp)⟩, ⟨below_set HB.out GE3.out⟩⟩
  ·have d1 : decide ((i : Int) < 8) = false := decide_eq_false (by omega)
   have e8 : i = 8 := by have := HI.out; omega
   subst e8
   have hlen : (seal_eight.l a0).length = 8 := by simp [seal_eight.l]
   have hs : (convert 76 9 (.slice (some ⟨gb3, 0, none⟩) 8 8)).run Tryd.prog wr = .ok (.string (strOfNums (seal_eight.l a0))) wr := by
    refine string_of_reads Tryd.underlying76 Tryd.underlying5 Tryd.underlying9 ⟨hlen, by decide, fun _ => ⟨_, rfl, fun j hj => ?_⟩⟩
    have hj' := hj
    have hg := blk_cell BK3.out j
    rw [seal_eight.cs_l] at hg
    have e : (Addr.add ⟨gb3, 0, none⟩ j) = ⟨gb3, j, none⟩ := by unfold Addr.add; split <;> simp_all
    rw [e, hg, List.getElem?_toArray, List.getElem?_map, List.getElem?_eq_getElem (by omega), List.getD_eq_getElem?_getD, List.getElem?_eq_getElem (by omega)]
    rfl
   clear hlen
   go_wp2
   go_ret
   exact ⟨rfl, (HB.out)⟩

/-! ### seal_Sum: function 44 -/
def seal_Sum.tab : List Int := [0, 9051005139383707209, 18102010278767414418, 9704381199536204507, 7257036000092981153, 1814259000023245288, 11493583972846619443, 16292555063049989498, 14514072000185962306, 13040162471224305931, 3628518000046490576, 5746791986423309721, 12527462061959317731, 15006518869663149738, 6263731030979658865, 3131865515489829432]
def seal_Sum.nib (x : Int) : Int := Go.bits .xor .u64 (x / 16) (seal_Sum.tab.getD (Go.bits .and .u64 x 15).toNat 0)
def seal_Sum.stepB (x b : Int) : Int := seal_Sum.nib (seal_Sum.nib (Go.bits .xor .u64 x b))
def seal_Sum.crcS (x : Int) (l : List UInt8) : Int := l.foldl (fun x b => seal_Sum.stepB x (b.toNat : Int)) x
def seal_Sum.crcs (x : Int) (l : List ByteArray) : Int := l.foldl (fun x s => seal_Sum.crcS x s.data.toList) x
set_option maxHeartbeats 4000000 in
set_option maxRecDepth 100000 in
theorem seal_Sum.table_calls (w : World) : Calls Tryd.prog 53 #[] w fun e w' => e = .returned (.agg #[.int .u64 0, .int .u64 9051005139383707209, .int .u64 18102010278767414418, .int .u64 9704381199536204507, .int .u64 7257036000092981153, .int .u64 1814259000023245288, .int .u64 11493583972846619443, .int .u64 16292555063049989498, .int .u64 14514072000185962306, .int .u64 13040162471224305931, .int .u64 3628518000046490576, .int .u64 5746791986423309721, .int .u64 12527462061959317731, .int .u64 15006518869663149738, .int .u64 6263731030979658865, .int .u64 3131865515489829432]) ∧ Below w.heap.size w w' := by
 have HB := Aside0.mk (Below.refl w.heap.size w)
 go_enter Tryd.func53, Tryd.ntmps53
 go_wp2_with (first | ((with_reducible refine gate_dst (N := 0) rfl ?_); refine box_event ?hg (N := 0) ?hd (cs := #[.int .u64 0, .int .u64 0, .int .u64 0, .int .u64 0, .int .u64 0, .int .u64 0, .int .u64 0, .int .u64 0, .int .u64 0, .int .u64 0, .int .u64 0, .int .u64 0, .int .u64 0, .int .u64 0, .int .u64 0, .int .u64 0]) (t := 91) ?hr ?_; (case hd => rfl); (case hg => rfl); (case hr => (go_simp; done)); intro gb0 hg wb0 hbox hb; have n0_ := Aside0.mk (below_step (HB.out) hb); have n3_ := Aside0.mk ((by rw [hg]; exact (below_size (HB.out)) : w.heap.size ≤ gb0)); have BK0 := Aside0.mk hbox; clear HB; have HB := n0_; have GE0 := n3_; clear n0_ n3_; clear hb hbox hg; obtain ⟨hc0_0, hf0_0, hc0_1, hf0_1, hc0_2, hf0_2, hc0_3, hf0_3, hc0_4, hf0_4, hc0_5, hf0_5, hc0_6, hf0_6, hc0_7, hf0_7, hc0_8, hf0_8, hc0_9, hf0_9, hc0_10, hf0_10, hc0_11, hf0_11, hc0_12, hf0_12, hc0_13, hf0_13, hc0_14, hf0_14, hc0_15, hf0_15⟩ := be16 BK0.out) | ((with_reducible refine gate_store (t := 91) (p := 0) rfl ?_); refine store_event (t := 91) (p := 0) (v := ?vz_2) (w1 := ((((((((((((((((wb0.setCell ⟨gb0, 0, none⟩ (.int .u64 0)).setCell ⟨gb0, 1, none⟩ (.int .u64 9051005139383707209)).setCell ⟨gb0, 2, none⟩ (.int .u64 18102010278767414418)).setCell ⟨gb0, 3, none⟩ (.int .u64 9704381199536204507)).setCell ⟨gb0, 4, none⟩ (.int .u64 7257036000092981153)).setCell ⟨gb0, 5, none⟩ (.int .u64 1814259000023245288)).setCell ⟨gb0, 6, none⟩ (.int .u64 11493583972846619443)).setCell ⟨gb0, 7, none⟩ (.int .u64 16292555063049989498)).setCell ⟨gb0, 8, none⟩ (.int .u64 14514072000185962306)).setCell ⟨gb0, 9, none⟩ (.int .u64 13040162471224305931)).setCell ⟨gb0, 10, none⟩ (.int .u64 3628518000046490576)).setCell ⟨gb0, 11, none⟩ (.int .u64 5746791986423309721)).setCell ⟨gb0, 12, none⟩ (.int .u64 12527462061959317731)).setCell ⟨gb0, 13, none⟩ (.int .u64 15006518869663149738)).setCell ⟨gb0, 14, none⟩ (.int .u64 6263731030979658865)).setCell ⟨gb0, 15, none⟩ (.int .u64 3131865515489829432))) ?hg ?ho ?hn ?hr ?_; (case ho => rfl); (case hg => rfl); (case hn => rfl); (case hr => (go_simp; done)); intro ws0 hw; have n0_ : Aside0 (Below w.heap.size w ws0) := ⟨by rw [hw]; exact (below_set (below_set (below_set (below_set (below_set (below_set (below_set (below_set (below_set (below_set (below_set (below_set (below_set (below_set (below_set (below_set HB.out GE0.out) GE0.out) GE0.out) GE0.out) GE0.out) GE0.out) GE0.out) GE0.out) GE0.out) GE0.out) GE0.out) GE0.out) GE0.out) GE0.out) GE0.out) GE0.out)⟩; have n1_ : Aside0 (ws0.heap[gb0]? = some (.cells #[.int .u64 0, .int .u64 9051005139383707209, .int .u64 18102010278767414418, .int .u64 9704381199536204507, .int .u64 7257036000092981153, .int .u64 1814259000023245288, .int .u64 11493583972846619443, .int .u64 16292555063049989498, .int .u64 14514072000185962306, .int .u64 13040162471224305931, .int .u64 3628518000046490576, .int .u64 5746791986423309721, .int .u64 12527462061959317731, .int .u64 15006518869663149738, .int .u64 6263731030979658865, .int .u64 3131865515489829432] 91 (0, 0))) := ⟨by rw [hw]; exact (blk_put (cs' := #[.int .u64 0, .int .u64 9051005139383707209, .int .u64 18102010278767414418, .int .u64 9704381199536204507, .int .u64 7257036000092981153, .int .u64 1814259000023245288, .int .u64 11493583972846619443, .int .u64 16292555063049989498, .int .u64 14514072000185962306, .int .u64 13040162471224305931, .int .u64 3628518000046490576, .int .u64 5746791986423309721, .int .u64 12527462061959317731, .int .u64 15006518869663149738, .int .u64 6263731030979658865, .int .u64 3131865515489829432]) (blk_put (cs' := #[.int .u64 0, .int .u64 9051005139383707209, .int .u64 18102010278767414418, .int .u64 9704381199536204507, .int .u64 7257036000092981153, .int .u64 1814259000023245288, .int .u64 11493583972846619443, .int .u64 16292555063049989498, .int .u64 14514072000185962306, .int .u64 13040162471224305931, .int .u64 3628518000046490576, .int .u64 5746791986423309721, .int .u64 12527462061959317731, .int .u64 15006518869663149738, .int .u64 6263731030979658865, .int .u64 0]) (blk_put (cs' := #[.int .u64 0, .int .u64 9051005139383707209, .int .u64 18102010278767414418, .int .u64 9704381199536204507, .int .u64 7257036000092981153, .int .u64 1814259000023245288, .int .u64 11493583972846619443, .int .u64 16292555063049989498, .int .u64 14514072000185962306, .int .u64 13040162471224305931, .int .u64 3628518000046490576, .int .u64 5746791986423309721, .int .u64 12527462061959317731, .int .u64 15006518869663149738, .int .u64 0, .int .u64 0]) (blk_put (cs' := #[.int .u64 0, .int .u64 9051005139383707209, .int .u64 18102010278767414418, .int .u64 9704381199536204507, .int .u64 7257036000092981153, .int .u64 1814259000023245288, .int .u64 11493583972846619443, .int .u64 16292555063049989498, .int .u64 14514072000185962306, .int .u64 13040162471224305931, .int .u64 3628518000046490576, .int .u64 5746791986423309721, .int .u64 12527462061959317731, .int .u64 0, .int .u64 0, .int .u64 0]) (blk_put (cs' := #[.int .u64 0, .int .u64 9051005139383707209, .int .u64 18102010278767414418, .int .u64 9704381199536204507, .int .u64 7257036000092981153, .int .u64 1814259000023245288, .int .u64 11493583972846619443, .int .u64 16292555063049989498, .int .u64 14514072000185962306, .int .u64 13040162471224305931, .int .u64 3628518000046490576, .int .u64 5746791986423309721, .int .u64 0, .int .u64 0, .int .u64 0, .int .u64 0]) (blk_put (cs' := #[.int .u64 0, .int .u64 9051005139383707209, .int .u64 18102010278767414418, .int .u64 9704381199536204507, .int .u64 7257036000092981153, .int .u64 1814259000023245288, .int .u64 11493583972846619443, .int .u64 16292555063049989498, .int .u64 14514072000185962306, .int .u64 13040162471224305931, .int .u64 3628518000046490576, .int .u64 0, .int .u64 0, .int .u64 0, .int .u64 0, .int .u64 0]) (blk_put (cs' := #[.int .u64 0, .int .u64 9051005139383707209, .int .u64 18102010278767414418, .int .u64 9704381199536204507, .int .u64 7257036000092981153, .int .u64 1814259000023245288, .int .u64 11493583972846619443, .int .u64 16292555063049989498, .int .u64 14514072000185962306, .int .u64 13040162471224305931, .int .u64 0, .int .u64 0, .int .u64 0, .int .u64 0, .int .u64 0, .int .u64 0]) (blk_put (cs' := #[.int .u64 0, .int .u64 9051005139383707209, .int .u64 18102010278767414418, .int .u64 9704381199536204507, .int .u64 7257036000092981153, .int .u64 1814259000023245288, .int .u64 11493583972846619443, .int .u64 16292555063049989498, .int .u64 14514072000185962306, .int .u64 0, .int .u64 0, .int .u64 0, .int .u64 0, .int .u64 0, .int .u64 0, .int .u64 0]) (blk_put (cs' := #[.int .u64 0, .int .u64 9051005139383707209, .int .u64 18102010278767414418, .int .u64 9704381199536204507, .int .u64 7257036000092981153, .int .u64 1814259000023245288, .int .u64 11493583972846619443, .int .u64 16292555063049989498, .int .u64 0, .int .u64 0, .int .u64 0, .int .u64 0, .int .u64 0, .int .u64 0, .int .u64 0, .int .u64 0]) (blk_put (cs' := #[.int .u64 0, .int .u64 9051005139383707209, .int .u64 18102010278767414418, .int .u64 9704381199536204507, .int .u64 7257036000092981153, .int .u64 1814259000023245288, .int .u64 11493583972846619443, .int .u64 0, .int .u64 0, .int .u64 0, .int .u64 0, .int .u64 0, .int .u64 0, .int .u64 0, .int .u64 0, .int .u64 0]) (blk_put (cs' := #[.int .u64 0, .int .u64 9051005139383707209, .int .u64 18102010278767414418, .int .u64 9704381199536204507, .int .u64 7257036000092981153, .int .u64 1814259000023245288, .int .u64 0, .int .u64 0, .int .u64 0, .int .u64 0, .int .u64 0, .int .u64 0, .int .u64 0, .int .u64 0, .int .u64 0, .int .u64 0]) (blk_put (cs' := #[.int .u64 0, .int .u64 9051005139383707209, .int .u64 18102010278767414418, .int .u64 9704381199536204507, .int .u64 7257036000092981153, .int .u64 0, .int .u64 0, .int .u64 0, .int .u64 0, .int .u64 0, .int .u64 0, .int .u64 0, .int .u64 0, .int .u64 0, .int .u64 0, .int .u64 0]) (blk_put (cs' := #[.int .u64 0, .int .u64 9051005139383707209, .int .u64 18102010278767414418, .int .u64 9704381199536204507, .int .u64 0, .int .u64 0, .int .u64 0, .int .u64 0, .int .u64 0, .int .u64 0, .int .u64 0, .int .u64 0, .int .u64 0, .int .u64 0, .int .u64 0, .int .u64 0]) (blk_put (cs' := #[.int .u64 0, .int .u64 9051005139383707209, .int .u64 18102010278767414418, .int .u64 0, .int .u64 0, .int .u64 0, .int .u64 0, .int .u64 0, .int .u64 0, .int .u64 0, .int .u64 0, .int .u64 0, .int .u64 0, .int .u64 0, .int .u64 0, .int .u64 0]) (blk_put (cs' := #[.int .u64 0, .int .u64 9051005139383707209, .int .u64 0, .int .u64 0, .int .u64 0, .int .u64 0, .int .u64 0, .int .u64 0, .int .u64 0, .int .u64 0, .int .u64 0, .int .u64 0, .int .u64 0, .int .u64 0, .int .u64 0, .int .u64 0]) (blk_put (cs' := #[.int .u64 0, .int .u64 0, .int .u64 0, .int .u64 0, .int .u64 0, .int .u64 0, .int .u64 0, .int .u64 0, .int .u64 0, .int .u64 0, .int .u64 0, .int .u64 0, .int .u64 0, .int .u64 0, .int .u64 0, .int .u64 0]) BK0.out 0 (.int .u64 0) rfl) 1 (.int .u64 9051005139383707209) rfl) 2 (.int .u64 18102010278767414418) rfl) 3 (.int .u64 9704381199536204507) rfl) 4 (.int .u64 7257036000092981153) rfl) 5 (.int .u64 1814259000023245288) rfl) 6 (.int .u64 11493583972846619443) rfl) 7 (.int .u64 16292555063049989498) rfl) 8 (.int .u64 14514072000185962306) rfl) 9 (.int .u64 13040162471224305931) rfl) 10 (.int .u64 3628518000046490576) rfl) 11 (.int .u64 5746791986423309721) rfl) 12 (.int .u64 12527462061959317731) rfl) 13 (.int .u64 15006518869663149738) rfl) 14 (.int .u64 6263731030979658865) rfl) 15 (.int .u64 3131865515489829432) rfl)⟩; clear hw HB; have HB := n0_; clear BK0 hc0_0 hf0_0 hc0_1 hf0_1 hc0_2 hf0_2 hc0_3 hf0_3 hc0_4 hf0_4 hc0_5 hf0_5 hc0_6 hf0_6 hc0_7 hf0_7 hc0_8 hf0_8 hc0_9 hf0_9 hc0_10 hf0_10 hc0_11 hf0_11 hc0_12 hf0_12 hc0_13 hf0_13 hc0_14 hf0_14 hc0_15 hf0_15; have BK0 := n1_; clear n0_ n1_; obtain ⟨hc0_0, hf0_0, hc0_1, hf0_1, hc0_2, hf0_2, hc0_3, hf0_3, hc0_4, hf0_4, hc0_5, hf0_5, hc0_6, hf0_6, hc0_7, hf0_7, hc0_8, hf0_8, hc0_9, hf0_9, hc0_10, hf0_10, hc0_11, hf0_11, hc0_12, hf0_12, hc0_13, hf0_13, hc0_14, hf0_14, hc0_15, hf0_15⟩ := be16 BK0.out))
 exact bodyPost_ret (results_cell_row rfl _ _ gb0 91 _ (0, 0) _ rfl BK0.out Tryd.underlying91 rfl (by kernel_rfl)) rfl ⟨rfl, (HB.out)⟩
theorem seal_Sum.tab_arr : (#[.int .u64 0, .int .u64 9051005139383707209, .int .u64 18102010278767414418, .int .u64 9704381199536204507, .int .u64 7257036000092981153, .int .u64 1814259000023245288, .int .u64 11493583972846619443, .int .u64 16292555063049989498, .int .u64 14514072000185962306, .int .u64 13040162471224305931, .int .u64 3628518000046490576, .int .u64 5746791986423309721, .int .u64 12527462061959317731, .int .u64 15006518869663149738, .int .u64 6263731030979658865, .int .u64 3131865515489829432] : Array Value) = (seal_Sum.tab.map (Value.int .u64)).toArray := rfl
theorem seal_Sum.tab_get (i : Nat) (h : i < 16) : (seal_Sum.tab.map (Value.int .u64)).toArray[i]? = some (.int .u64 (seal_Sum.tab.getD i 0)) := by
 have hl : i < seal_Sum.tab.length := h
 rw [List.getElem?_toArray, List.getElem?_map, List.getElem?_eq_getElem hl, List.getD_eq_getElem?_getD, List.getElem?_eq_getElem hl]
 rfl
theorem seal_Sum.w64 (x : Int) : IntKind.u64.wrap x = x % 18446744073709551616 := by simp [IntKind.wrap, IntKind.signed, IntKind.bits]
theorem seal_Sum.xor_rng (a b : Int) (ha : 0 ≤ a ∧ a < 18446744073709551616) (hb : 0 ≤ b ∧ b < 18446744073709551616) : 0 ≤ bits .xor .u64 a b ∧ bits .xor .u64 a b < 18446744073709551616 := by
 obtain ⟨m, rfl⟩ := Int.eq_ofNat_of_zero_le ha.1
 obtain ⟨n, rfl⟩ := Int.eq_ofNat_of_zero_le hb.1
 have h1 : m < 2 ^ 64 := by omega
 have h2 : n < 2 ^ 64 := by omega
 have h3 := Nat.xor_lt_two_pow h1 h2
 rw [bits_xor_u64_nat m n (by omega) (by omega)]
 omega
theorem seal_Sum.and15 (x : Int) (h : 0 ≤ x ∧ x < 18446744073709551616) : ∃ i : Nat, i < 16 ∧ bits .and .u64 x 15 = (i : Int) := by
 obtain ⟨m, rfl⟩ := Int.eq_ofNat_of_zero_le h.1
 refine ⟨m &&& 15, ?_, bits_and_u64_nat m 15 (by omega) (by omega)⟩
 have : m &&& 15 ≤ 15 := Nat.and_le_right
 omega
theorem seal_Sum.tab_rng : ∀ i, i < 16 → 0 ≤ seal_Sum.tab.getD i 0 ∧ seal_Sum.tab.getD i 0 < 18446744073709551616 := by decide
def seal_Sum.f (l0 : List ByteArray) : Option Int := if (∀ s ∈ l0, s.size ≤ 9223372036854775807) then some (Go.bits .xor .u64 18446744073709551615 (seal_Sum.crcs 18446744073709551615 l0)) else none
set_option maxHeartbeats 8000000 in
set_option maxRecDepth 100000 in
theorem seal_Sum.calls (A0 : Option Addr) (c0 : Nat) (l0 : List ByteArray) (r : Int) (w : World) (hr0 : Kd.C Kd.string w A0 l0.length l0) (hc0 : l0.length ≤ c0) (h : seal_Sum.f l0 = some r) : Calls Tryd.prog 44 #[.slice A0 l0.length c0] w fun e w' => e = .returned (.int .u64 r) ∧ Below w.heap.size w w' := by
 have HR := Aside0.mk hr0
 have HC := Aside0.mk hc0
 have hl : l0.length ≤ 9223372036854775807 := hr0.2.1
 have HL := Aside0.mk hl
 clear hr0 hc0 hl
 unfold seal_Sum.f at h
 by_cases hm : ∀ s ∈ l0, s.size ≤ 9223372036854775807
 case neg => rw [if_neg hm] at h; cases h
 rw [if_pos hm] at h
 obtain rfl := Option.some.inj h
 have HM := Aside0.mk hm
 clear h hm
 obtain ⟨R, hR⟩ : ∃ R, R = seal_Sum.crcs 18446744073709551615 l0 := ⟨_, rfl⟩
 rw [← hR]
 have HX := Aside0.mk hR
 clear hR
 have HB := Aside0.mk (Below.refl w.heap.size w)
 go_enter Tryd.func44, Tryd.ntmps44
 go_wp2_with (first | (go_at_call 53; refine (seal_Sum.table_calls _).mono ?_; rintro e wc8 ⟨rfl, hb⟩; replace HB := Aside0.mk (below_step (HB.out) hb); clear hb) | ((with_reducible refine gate_dst (N := 3) rfl ?_); refine box_event ?hg (N := 3) ?hd (cs := #[.int .u64 0, .int .u64 0, .int .u64 0, .int .u64 0, .int .u64 0, .int .u64 0, .int .u64 0, .int .u64 0, .int .u64 0, .int .u64 0, .int .u64 0, .int .u64 0, .int .u64 0, .int .u64 0, .int .u64 0, .int .u64 0]) (t := 91) ?hr ?_; (case hd => rfl); (case hg => rfl); (case hr => (go_simp; done)); intro gb3 hg wb3 hbox hb; have n0_ := Aside0.mk (below_step (HB.out) hb); have n3_ := Aside0.mk ((by rw [hg]; exact (below_size (HB.out)) : w.heap.size ≤ gb3)); have BK3 := Aside0.mk hbox; clear HB; have HB := n0_; have GE3 := n3_; clear n0_ n3_; clear hb hbox hg; obtain ⟨hc3_0, hf3_0, hc3_1, hf3_1, hc3_2, hf3_2, hc3_3, hf3_3, hc3_4, hf3_4, hc3_5, hf3_5, hc3_6, hf3_6, hc3_7, hf3_7, hc3_8, hf3_8, hc3_9, hf3_9, hc3_10, hf3_10, hc3_11, hf3_11, hc3_12, hf3_12, hc3_13, hf3_13, hc3_14, hf3_14, hc3_15, hf3_15⟩ := be16 BK3.out) | ((with_reducible refine gate_store (t := 91) (p := 3) rfl ?_); refine store_event (t := 91) (p := 3) (v := ?vz_3) (w1 := ((((((((((((((((wb3.setCell ⟨gb3, 0, none⟩ (.int .u64 0)).setCell ⟨gb3, 1, none⟩ (.int .u64 9051005139383707209)).setCell ⟨gb3, 2, none⟩ (.int .u64 18102010278767414418)).setCell ⟨gb3, 3, none⟩ (.int .u64 9704381199536204507)).setCell ⟨gb3, 4, none⟩ (.int .u64 7257036000092981153)).setCell ⟨gb3, 5, none⟩ (.int .u64 1814259000023245288)).setCell ⟨gb3, 6, none⟩ (.int .u64 11493583972846619443)).setCell ⟨gb3, 7, none⟩ (.int .u64 16292555063049989498)).setCell ⟨gb3, 8, none⟩ (.int .u64 14514072000185962306)).setCell ⟨gb3, 9, none⟩ (.int .u64 13040162471224305931)).setCell ⟨gb3, 10, none⟩ (.int .u64 3628518000046490576)).setCell ⟨gb3, 11, none⟩ (.int .u64 5746791986423309721)).setCell ⟨gb3, 12, none⟩ (.int .u64 12527462061959317731)).setCell ⟨gb3, 13, none⟩ (.int .u64 15006518869663149738)).setCell ⟨gb3, 14, none⟩ (.int .u64 6263731030979658865)).setCell ⟨gb3, 15, none⟩ (.int .u64 3131865515489829432))) ?hg ?ho ?hn ?hr ?_; (case ho => rfl); (case hg => rfl); (case hn => rfl); (case hr => (go_simp; done)); intro ws3 hw; have n0_ : Aside0 (Below w.heap.size w ws3) := ⟨by rw [hw]; exact (below_set (below_set (below_set (below_set (below_set (below_set (below_set (below_set (below_set (below_set (below_set (below_set (below_set (below_set (below_set (below_set HB.out GE3.out) GE3.out) GE3.out) GE3.out) GE3.out) GE3.out) GE3.out) GE3.out) GE3.out) GE3.out) GE3.out) GE3.out) GE3.out) GE3.out) GE3.out) GE3.out)⟩; have n1_ : Aside0 (ws3.heap[gb3]? = some (.cells #[.int .u64 0, .int .u64 9051005139383707209, .int .u64 18102010278767414418, .int .u64 9704381199536204507, .int .u64 7257036000092981153, .int .u64 1814259000023245288, .int .u64 11493583972846619443, .int .u64 16292555063049989498, .int .u64 14514072000185962306, .int .u64 13040162471224305931, .int .u64 3628518000046490576, .int .u64 5746791986423309721, .int .u64 12527462061959317731, .int .u64 15006518869663149738, .int .u64 6263731030979658865, .int .u64 3131865515489829432] 91 (0, 0))) := ⟨by rw [hw]; exact (blk_put (cs' := #[.int .u64 0, .int .u64 9051005139383707209, .int .u64 18102010278767414418, .int .u64 9704381199536204507, .int .u64 7257036000092981153, .int .u64 1814259000023245288, .int .u64 11493583972846619443, .int .u64 16292555063049989498, .int .u64 14514072000185962306, .int .u64 13040162471224305931, .int .u64 3628518000046490576, .int .u64 5746791986423309721, .int .u64 12527462061959317731, .int .u64 15006518869663149738, .int .u64 6263731030979658865, .int .u64 3131865515489829432]) (blk_put (cs' := #[.int .u64 0, .int .u64 9051005139383707209, .int .u64 18102010278767414418, .int .u64 9704381199536204507, .int .u64 7257036000092981153, .int .u64 1814259000023245288, .int .u64 11493583972846619443, .int .u64 16292555063049989498, .int .u64 14514072000185962306, .int .u64 13040162471224305931, .int .u64 3628518000046490576, .int .u64 5746791986423309721, .int .u64 12527462061959317731, .int .u64 15006518869663149738, .int .u64 6263731030979658865, .int .u64 0]) (blk_put (cs' := #[.int .u64 0, .int .u64 9051005139383707209, .int .u64 18102010278767414418, .int .u64 9704381199536204507, .int .u64 7257036000092981153, .int .u64 1814259000023245288, .int .u64 11493583972846619443, .int .u64 16292555063049989498, .int .u64 14514072000185962306, .int .u64 13040162471224305931, .int .u64 3628518000046490576, .int .u64 5746791986423309721, .int .u64 12527462061959317731, .int .u64 15006518869663149738, .int .u64 0, .int .u64 0]) (blk_put (cs' := #[.int .u64 0, .int .u64 9051005139383707209, .int .u64 18102010278767414418, .int .u64 9704381199536204507, .int .u64 7257036000092981153, .int .u64 1814259000023245288, .int .u64 11493583972846619443, .int .u64 16292555063049989498, .int .u64 14514072000185962306, .int .u64 13040162471224305931, .int .u64 3628518000046490576, .int .u64 5746791986423309721, .int .u64 12527462061959317731, .int .u64 0, .int .u64 0, .int .u64 0]) (blk_put (cs' := #[.int .u64 0, .int .u64 9051005139383707209, .int .u64 18102010278767414418, .int .u64 9704381199536204507, .int .u64 7257036000092981153, .int .u64 1814259000023245288, .int .u64 11493583972846619443, .int .u64 16292555063049989498, .int .u64 14514072000185962306, .int .u64 13040162471224305931, .int .u64 3628518000046490576, .int .u64 5746791986423309721, .int .u64 0, .int .u64 0, .int .u64 0, .int .u64 0]) (blk_put (cs' := #[.int .u64 0, .int .u64 9051005139383707209, .int .u64 18102010278767414418, .int .u64 9704381199536204507, .int .u64 7257036000092981153, .int .u64 1814259000023245288, .int .u64 11493583972846619443, .int .u64 16292555063049989498, .int .u64 14514072000185962306, .int .u64 13040162471224305931, .int .u64 3628518000046490576, .int .u64 0, .int .u64 0, .int .u64 0, .int .u64 0, .int .u64 0]) (blk_put (cs' := #[.int .u64 0, .int .u64 9051005139383707209, .int .u64 18102010278767414418, .int .u64 9704381199536204507, .int .u64 7257036000092981153, .int .u64 1814259000023245288, .int .u64 11493583972846619443, .int .u64 16292555063049989498, .int .u64 14514072000185962306, .int .u64 13040162471224305931, .int .u64 0, .int .u64 0, .int .u64 0, .int .u64 0, .int .u64 0, .int .u64 0]) (blk_put (cs' := #[.int .u64 0, .int .u64 9051005139383707209, .int .u64 18102010278767414418, .int .u64 9704381199536204507, .int .u64 7257036000092981153, .int .u64 1814259000023245288, .int .u64 11493583972846619443, .int .u64 16292555063049989498, .int .u64 14514072000185962306, .int .u64 0, .int .u64 0, .int .u64 0, .int .u64 0, .int .u64 0, .int .u64 0, .int .u64 0]) (blk_put (cs' := #[.int .u64 0, .int .u64 9051005139383707209, .int .u64 18102010278767414418, .int .u64 9704381199536204507, .int .u64 7257036000092981153, .int .u64 1814259000023245288, .int .u64 11493583972846619443, .int .u64 16292555063049989498, .int .u64 0, .int .u64 0, .int .u64 0, .int .u64 0, .int .u64 0, .int .u64 0, .int .u64 0, .int .u64 0]) (blk_put (cs' := #[.int .u64 0, .int .u64 9051005139383707209, .int .u64 18102010278767414418, .int .u64 9704381199536204507, .int .u64 7257036000092981153, .int .u64 1814259000023245288, .int .u64 11493583972846619443, .int .u64 0, .int .u64 0, .int .u64 0, .int .u64 0, .int .u64 0, .int .u64 0, .int .u64 0, .int .u64 0, .int .u64 0]) (blk_put (cs' := #[.int .u64 0, .int .u64 9051005139383707209, .int .u64 18102010278767414418, .int .u64 9704381199536204507, .int .u64 7257036000092981153, .int .u64 1814259000023245288, .int .u64 0, .int .u64 0, .int .u64 0, .int .u64 0, .int .u64 0, .int .u64 0, .int .u64 0, .int .u64 0, .int .u64 0, .int .u64 0]) (blk_put (cs' := #[.int .u64 0, .int .u64 9051005139383707209, .int .u64 18102010278767414418, .int .u64 9704381199536204507, .int .u64 7257036000092981153, .int .u64 0, .int .u64 0, .int .u64 0, .int .u64 0, .int .u64 0, .int .u64 0, .int .u64 0, .int .u64 0, .int .u64 0, .int .u64 0, .int .u64 0]) (blk_put (cs' := #[.int .u64 0, .int .u64 9051005139383707209, .int .u64 18102010278767414418, .int .u64 9704381199536204507, .int .u64 0, .int .u64 0, .int .u64 0, .int .u64 0, .int .u64 0, .int .u64 0, .int .u64 0, .int .u64 0, .int .u64 0, .int .u64 0, .int .u64 0, .int .u64 0]) (blk_put (cs' := #[.int .u64 0, .int .u64 9051005139383707209, .int .u64 18102010278767414418, .int .u64 0, .int .u64 0, .int .u64 0, .int .u64 0, .int .u64 0, .int .u64 0, .int .u64 0, .int .u64 0, .int .u64 0, .int .u64 0, .int .u64 0, .int .u64 0, .int .u64 0]) (blk_put (cs' := #[.int .u64 0, .int .u64 9051005139383707209, .int .u64 0, .int .u64 0, .int .u64 0, .int .u64 0, .int .u64 0, .int .u64 0, .int .u64 0, .int .u64 0, .int .u64 0, .int .u64 0, .int .u64 0, .int .u64 0, .int .u64 0, .int .u64 0]) (blk_put (cs' := #[.int .u64 0, .int .u64 0, .int .u64 0, .int .u64 0, .int .u64 0, .int .u64 0, .int .u64 0, .int .u64 0, .int .u64 0, .int .u64 0, .int .u64 0, .int .u64 0, .int .u64 0, .int .u64 0, .int .u64 0, .int .u64 0]) BK3.out 0 (.int .u64 0) rfl) 1 (.int .u64 9051005139383707209) rfl) 2 (.int .u64 18102010278767414418) rfl) 3 (.int .u64 9704381199536204507) rfl) 4 (.int .u64 7257036000092981153) rfl) 5 (.int .u64 1814259000023245288) rfl) 6 (.int .u64 11493583972846619443) rfl) 7 (.int .u64 16292555063049989498) rfl) 8 (.int .u64 14514072000185962306) rfl) 9 (.int .u64 13040162471224305931) rfl) 10 (.int .u64 3628518000046490576) rfl) 11 (.int .u64 5746791986423309721) rfl) 12 (.int .u64 12527462061959317731) rfl) 13 (.int .u64 15006518869663149738) rfl) 14 (.int .u64 6263731030979658865) rfl) 15 (.int .u64 3131865515489829432) rfl)⟩; clear hw HB; have HB := n0_; clear BK3 hc3_0 hf3_0 hc3_1 hf3_1 hc3_2 hf3_2 hc3_3 hf3_3 hc3_4 hf3_4 hc3_5 hf3_5 hc3_6 hf3_6 hc3_7 hf3_7 hc3_8 hf3_8 hc3_9 hf3_9 hc3_10 hf3_10 hc3_11 hf3_11 hc3_12 hf3_12 hc3_13 hf3_13 hc3_14 hf3_14 hc3_15 hf3_15; have BK3 := n1_; clear n0_ n1_; obtain ⟨hc3_0, hf3_0, hc3_1, hf3_1, hc3_2, hf3_2, hc3_3, hf3_3, hc3_4, hf3_4, hc3_5, hf3_5, hc3_6, hf3_6, hc3_7, hf3_7, hc3_8, hf3_8, hc3_9, hf3_9, hc3_10, hf3_10, hc3_11, hf3_11, hc3_12, hf3_12, hc3_13, hf3_13, hc3_14, hf3_14, hc3_15, hf3_15⟩ := be16 BK3.out))
 rw [seal_Sum.tab_arr] at BK3
 clear hc3_0 hf3_0 hc3_1 hf3_1 hc3_2 hf3_2 hc3_3 hf3_3 hc3_4 hf3_4 hc3_5 hf3_5 hc3_6 hf3_6 hc3_7 hf3_7 hc3_8 hf3_8 hc3_9 hf3_9 hc3_10 hf3_10 hc3_11 hf3_11 hc3_12 hf3_12 hc3_13 hf3_13 hc3_14 hf3_14 hc3_15 hf3_15
 go_loopg [4, 11] l0.length (fun kq v4 v11 w' => ∃ (i : Nat) (x : Int), v11 = .int .i64 (i : Int) ∧ v4 = .int .u64 x ∧ Aside0 (0 ≤ x ∧ x < 18446744073709551616) ∧ Aside0 (kq = l0.length - i) ∧ Aside0 (i ≤ l0.length) ∧ Aside0 (seal_Sum.crcs x (l0.drop i) = R) ∧ Aside0 (w'.heap[gb3]? = some (.cells (seal_Sum.tab.map (Value.int .u64)).toArray 91 (0, 0))) ∧ Aside0 (Below w.heap.size w w'))
 case atStart => exact ⟨0, 18446744073709551615, rfl, rfl, ⟨by decide⟩, ⟨rfl⟩, ⟨Nat.zero_le _⟩, ⟨HX.out.symm⟩, ⟨BK3.out⟩, ⟨HB.out⟩⟩
 case round =>
  clear BK3 HB
  obtain ⟨i, x, rfl, rfl, HU, HK, HI, HA, BK3, HB⟩ := hrel
  by_cases hlt : i < l0.length
  ·have d1 : decide ((i : Int) < (l0.length : Int)) = true := decide_eq_true (by omega)
   have d2 : (0 ≤ (i : Int)) = True := eq_true (by omega)
   have d3 : ((i : Int) < (l0.length : Int)) = True := eq_true (by omega)
   obtain ⟨ad, e, hx⟩ := Kd.at_string HR.out (i : Int) (by omega) (by omega)
   subst e
   replace hx := (HB.out.cell (World.block_lt_of_cell? w _ hx)).trans hx
   rw [Int.toNat_natCast] at hx
   have hd : l0.drop i = rdOf ByteArray.empty l0 (i : Int) :: l0.drop (i + 1) := by
    rw [List.drop_eq_getElem_cons hlt]
    unfold rdOf
    rw [Int.toNat_natCast, List.getD_eq_getElem?_getD, List.getElem?_eq_getElem hlt]
    rfl
   generalize rdOf ByteArray.empty l0 (i : Int) = s at hx hd
   have HSZ := Aside0.mk (HM.out s (List.mem_of_mem_drop (by rw [hd]; exact List.mem_cons_self)))
   have hA := HA.out
   rw [hd] at hA
   replace hA : seal_Sum.crcs (seal_Sum.crcS x s.data.toList) (l0.drop (i + 1)) = R := hA
   obtain ⟨R2, hR2⟩ : ∃ R2, R2 = seal_Sum.crcS x s.data.toList := ⟨_, rfl⟩
   rw [← hR2] at hA
   have HR2 := Aside0.mk hR2.symm
   have HA2 := Aside0.mk hA
   have HLT := Aside0.mk hlt
   clear hR2 hA hd HA hlt
   have hi2 : wrap64 ((i : Int) + 1) = ((i + 1 : Nat) : Int) := by have := HL.out; have := HLT.out; rw [IntWalk.wrap64_in _ (by omega)]; omega
   go_wp2
   go_loopg [4, 17] s.size (fun kq v4 v17 w' => ∃ (j : Nat) (y : Int), v17 = .int .i64 (j : Int) ∧ v4 = .int .u64 y ∧ Aside0 (0 ≤ y ∧ y < 18446744073709551616) ∧ Aside0 (kq = s.size - j) ∧ Aside0 (j ≤ s.size) ∧ Aside0 (seal_Sum.crcS y (s.data.toList.drop j) = R2) ∧ Aside0 (w'.heap[gb3]? = some (.cells (seal_Sum.tab.map (Value.int .u64)).toArray 91 (0, 0))) ∧ Aside0 (Below w.heap.size w w'))
   case atStart => exact ⟨0, x, rfl, rfl, HU, ⟨rfl⟩, ⟨Nat.zero_le _⟩, HR2, ⟨BK3.out⟩, ⟨HB.out⟩⟩
   case round =>
    clear BK3 HB HR2 hx HU
    obtain ⟨j, y, rfl, rfl, HU, HK2, HJ, HR2, BK3, HB⟩ := hrel
    by_cases hlt : j < s.size
    ·have d4 : decide ((j : Int) < (s.size : Int)) = true := decide_eq_true (by omega)
     have d5 : (0 ≤ (j : Int)) = True := eq_true (by omega)
     have d6 : ((j : Int) < (s.size : Int)) = True := eq_true (by omega)
     have hb : ∀ h : j < s.size, ((s[j]'h).toNat : Int) = bt s j := bt_at s j
     have hsz := HSZ.out
     have hj2 : wrap64 ((j : Int) + 1) = ((j + 1 : Nat) : Int) := by rw [IntWalk.wrap64_in _ (by omega)]; omega
     clear hsz
     have hbl := bt_range s (j : Int)
     have hw : IntKind.u64.wrap (bt s (j : Int)) = bt s (j : Int) := by rw [seal_Sum.w64]; omega
     have hA := HR2.out
     have hdj : s.data.toList.drop j = (s.data.toList[j]'(by simpa using hlt)) :: s.data.toList.drop (j + 1) := List.drop_eq_getElem_cons (by simpa using hlt)
     rw [hdj] at hA
     replace hA : seal_Sum.crcS (seal_Sum.stepB y (((s.data.toList[j]'(by simpa using hlt)).toNat : Nat) : Int)) (s.data.toList.drop (j + 1)) = R2 := hA
     rw [show (((s.data.toList[j]'(by simpa using hlt)).toNat : Nat) : Int) = bt s (j : Int) by rw [← hb hlt]; rfl] at hA
     clear hdj HR2
     generalize bt s (j : Int) = b at hb hbl hw hA
     obtain ⟨y1, hy1⟩ : ∃ y1, bits .xor .u64 y b = y1 := ⟨_, rfl⟩
     have q1 := seal_Sum.xor_rng y b HU.out (by omega)
     rw [hy1] at q1
     obtain ⟨i1, hi1, e1⟩ := seal_Sum.and15 y1 q1
     obtain ⟨v1, hv1⟩ : ∃ v, v = seal_Sum.tab.getD i1 0 := ⟨_, rfl⟩
     obtain ⟨y2, hy2⟩ : ∃ y2, bits .xor .u64 (y1 / 16) v1 = y2 := ⟨_, rfl⟩
     have q2 := seal_Sum.xor_rng (y1 / 16) v1 (by omega) (by rw [hv1]; exact seal_Sum.tab_rng i1 hi1)
     rw [hy2] at q2
     obtain ⟨i2, hi3, e2⟩ := seal_Sum.and15 y2 q2
     obtain ⟨v2, hv2⟩ : ∃ v, v = seal_Sum.tab.getD i2 0 := ⟨_, rfl⟩
     obtain ⟨y3, hy3⟩ : ∃ y3, bits .xor .u64 (y2 / 16) v2 = y3 := ⟨_, rfl⟩
     have q3 := seal_Sum.xor_rng (y2 / 16) v2 (by omega) (by rw [hv2]; exact seal_Sum.tab_rng i2 hi3)
     rw [hy3] at q3
     have hs3 : seal_Sum.stepB y b = y3 := by
      unfold seal_Sum.stepB
      rw [hy1]
      have n1 : seal_Sum.nib y1 = y2 := by unfold seal_Sum.nib; rw [e1, Int.toNat_natCast, ← hv1]; exact hy2
      rw [n1]
      unfold seal_Sum.nib
      rw [e2, Int.toNat_natCast, ← hv2]
      exact hy3
     rw [hs3] at hA
     have HA := Aside0.mk hA
     have Q3 := Aside0.mk q3
     have t1 : (0 ≤ (i1 : Int)) = True := eq_true (by omega)
     have t2 : ((i1 : Int) < 16) = True := eq_true (by omega)
     have t3 : (0 ≤ (i2 : Int)) = True := eq_true (by omega)
     have t4 : ((i2 : Int) < 16) = True := eq_true (by omega)
     have hm1 : wr.cell? ⟨gb3, i1, none⟩ = some (.int .u64 v1) := by rw [hv1]; exact (blk_cell BK3.out i1).trans (seal_Sum.tab_get i1 hi1)
     have hm2 : wr.cell? ⟨gb3, i2, none⟩ = some (.int .u64 v2) := by rw [hv2]; exact (blk_cell BK3.out i2).trans (seal_Sum.tab_get i2 hi3)
     have HLJ := Aside0.mk hlt
     have p1 := q1.1
     have p2 := q2.1
     have p3 := q1.2
     have p4 := q2.2
     clear hs3 hA hbl q1 q2 q3 hi1 hi3 hlt hv1 hv2
     go_wp2
     obtain ⟨k, hk⟩ : ∃ k, s.size - j = k + 1 := ⟨s.size - j - 1, by have := HLJ.out; omega⟩
     go_roundg k
     case measure => have := HK2.out; omega
     case rel => exact ⟨j + 1, y3, by rw [hj2], rfl, Q3, ⟨by omega⟩, ⟨by have := HLJ.out; omega⟩, HA, BK3, HB⟩
    ·have d4 : decide ((j : Int) < (s.size : Int)) = false := decide_eq_false (by omega)
     have hy : y = R2 := by
      have hA := HR2.out
      rw [List.drop_of_length_le (by rw [Array.length_toList]; show s.size ≤ j; omega)] at hA
      exact hA
     subst hy
     go_wp2
     obtain ⟨k, hk⟩ : ∃ k, l0.length - i = k + 1 := ⟨l0.length - i - 1, by have := HLT.out; omega⟩
     go_roundg k
     case measure => have := HK.out; omega
     case rel => exact ⟨i + 1, y, by rw [hi2], rfl, HU, ⟨by omega⟩, ⟨by have := HLT.out; omega⟩, HA2, BK3, HB⟩
  ·have d1 : decide ((i : Int) < (l0.length : Int)) = false := decide_eq_false (by omega)
   have hy : x = R := by
    have hA := HA.out
    rw [List.drop_of_length_le (by omega)] at hA
    exact hA
   subst hy
   go_wp2
   go_ret
   exact ⟨rfl, HB.out⟩

/-! ### seal_Seal: function 33 -/
def seal_Seal.j0 : Nat → Int → ByteArray → Bool → Option (ByteArray × Int)
 | 0, _, _, _ => none
 | k + 1, x0, x1, x12 => if x12 = true then (some ((⟨#[]⟩ : ByteArray), 2)) else (if (x1.size : Int) > 30000 then (some ((⟨#[]⟩ : ByteArray), 3)) else ((some (([231, (x0) % 256] : List Int) : List Int)).bind fun y180 => ((pack_Text.f k x1).bind fun t183 => (if (strOfNums y180).size + t183.size ≤ 9223372036854775807 then ((seal_Sum.f (([(strOfNums y180) ++ t183] : List ByteArray))).bind fun t187 => ((seal_eight.f t187).bind fun t188 => (if (strOfNums y180).size + t183.size + t188.size ≤ 9223372036854775807 then (some (((strOfNums y180) ++ t183) ++ t188, 0)) else (none)))) else (none)))))
def seal_Seal.f (k : Nat) (a0 : Int) (a1 : ByteArray) : Option (ByteArray × Int) := if a0 < 0 then (seal_Seal.j0 k a0 a1 true) else (seal_Seal.j0 k a0 a1 (decide (a0 > 255)))
theorem seal_Seal.mono_l : ∀ k, (∀ y0 y1 y2, LeO (seal_Seal.j0 k y0 y1 y2) (seal_Seal.j0 (k + 1) y0 y1 y2))
 | 0 => fun _ _ _ r h => by simp [seal_Seal.j0] at h
 | k + 1 => by
  have ih0 := seal_Seal.mono_l k
  ·intro y0 y1 y2
   unfold seal_Seal.j0
   repeat' first
   | (with_reducible exact ih0 _ _ _)
   | (with_reducible exact pack_Text.mono _ _)
   | (with_reducible exact LeO.refl _)
   | (with_reducible exact LeO.none _)
   | (with_reducible refine LeO.ite ?_ ?_)
   | (with_reducible refine LeO.bind ?_ (fun _ => ?_))
   | exact ih0 _ _ _
   | exact pack_Text.mono _ _
   | exact LeO.none _
   | refine LeO.ite ?_ ?_
   | refine LeO.bind ?_ (fun _ => ?_)
theorem seal_Seal.mono : ∀ a0 a1 k, LeO (seal_Seal.f k a0 a1) (seal_Seal.f (k + 1) a0 a1) := by
 intro a0 a1 k
 have ih0 := seal_Seal.mono_l k
 unfold seal_Seal.f
 repeat' first
   | (with_reducible exact ih0 _ _ _)
   | (with_reducible exact pack_Text.mono _ _)
   | (with_reducible exact LeO.refl _)
   | (with_reducible exact LeO.none _)
   | (with_reducible refine LeO.ite ?_ ?_)
   | (with_reducible refine LeO.bind ?_ (fun _ => ?_))
   | exact ih0 _ _ _
   | exact pack_Text.mono _ _
   | exact LeO.none _
   | refine LeO.ite ?_ ?_
   | refine LeO.bind ?_ (fun _ => ?_)
def seal_Seal.T5 : Bool × List (List Nat × List Nat) := (true, [([], []), ([0], [0]), ([1], [1]), ([2], [2]), ([], []), ([4], [4]), ([3, 5], [3, 5]), ([6, 5, 0, 1, 2, 3, 4, 5, 6], [6])])
def seal_Seal.B5 : List Nat := [0, 1, 3, 7, 0, 16, 63, 127]
theorem seal_Seal.tab5 : rtab .any (opsOf Tryd.f33 5) = seal_Seal.T5 := by kernel_rfl
theorem seal_Seal.bits5 : waitsOk seal_Seal.T5.2 seal_Seal.B5 = true := by kernel_rfl
set_option maxHeartbeats 8000000 in
set_option maxRecDepth 100000 in
theorem seal_Seal.calls (k : Nat) (a0 : Int) (a1 : ByteArray) (r1 : ByteArray) (r2 : Int) (w : World) (h : seal_Seal.f k a0 a1 = some (r1, r2)) :
  Calls Tryd.prog 33 #[.int .i64 a0, .string a1] w fun e w' => e = .returned (.tuple #[.string r1, .int .i64 r2]) ∧ Below w.heap.size w w' := by
 have HB := Aside0.mk (Below.refl w.heap.size w)
 have H : (if a0 < 0 then (seal_Seal.j0 k a0 a1 true) else (seal_Seal.j0 k a0 a1 (decide (a0 > 255)))) = some (r1, r2) := h
 clear h
 have HC3 := Aside0.mk H
 clear H
 go_enter Tryd.func33, Tryd.ntmps33
 go_upto_region 1 with (fail)
 go_cut [12] (fun v12 wc => ∃ (kq : Nat) (x12_2 : Bool), v12 = .bool x12_2 ∧ Aside0 (seal_Seal.j0 kq a0 a1 x12_2 = some (r1, r2)) ∧ Aside0 (kq ≤ k) ∧ Aside0 (Below w.heap.size w wc))
 case first =>
  have H := HC3.out
  clear HC3
  by_cases c4 : a0 < 0
  ·rw [if_pos c4] at H
   have c4b0 : decide (a0 < 0) = true := decide_eq_true c4
   clear c4
   (skip)
   have H' := Aside0.mk H
   clear H
   go_wp2
   go_meet
   case rel => exact ⟨_, (true), (by rfl), H', ⟨by omega⟩, ⟨HB.out⟩⟩
  ·rw [if_neg c4] at H
   have c4b0 : decide (a0 < 0) = false := decide_eq_false c4
   clear c4
   (skip)
   have H' := Aside0.mk H
   clear H
   go_wp2
   go_meet
   case rel => exact ⟨_, (decide (a0 > 255)), (by rfl), H', ⟨by omega⟩, ⟨HB.out⟩⟩
 case rest =>
  clear HC3
  obtain ⟨kq, x12_2, rfl, HA, HJ2, HB⟩ := hcut
  cases kq with
  | zero => exact absurd HA.out (by simp [seal_Seal.j0])
  | succ kj2 =>
   have H := HA.out
   clear HA
   simp only [seal_Seal.j0] at H
   by_cases c5 : x12_2 = true
   ·subst c5
    have H1 : (some ((⟨#[]⟩ : ByteArray), 2)) = some (r1, r2) := by rw [if_pos rfl] at H; exact H
    clear H
    have H := H1
    clear H1
    simp only [Option.some.injEq, Prod.mk.injEq] at H
    obtain ⟨rfl, rfl⟩ := H
    go_wp2
    go_ret2
    exact ⟨by rfl, HB.out⟩
   ·replace c5 := Bool.eq_false_iff.mpr c5
    subst c5
    have H1 : (if (a1.size : Int) > 30000 then (some ((⟨#[]⟩ : ByteArray), 3)) else ((some (([231, (a0) % 256] : List Int) : List Int)).bind fun y180 => ((pack_Text.f kj2 a1).bind fun t183 => (if (strOfNums y180).size + t183.size ≤ 9223372036854775807 then ((seal_Sum.f (([(strOfNums y180) ++ t183] : List ByteArray))).bind fun t187 => ((seal_eight.f t187).bind fun t188 => (if (strOfNums y180).size + t183.size + t188.size ≤ 9223372036854775807 then (some (((strOfNums y180) ++ t183) ++ t188, 0)) else (none)))) else (none))))) = some (r1, r2) := by rw [if_neg (show ¬ (false = true) by decide)] at H; exact H
    clear H
    have H := H1
    clear H1
    by_cases c6 : (a1.size : Int) > 30000
    ·rw [if_pos c6] at H
     have c6b0 : decide (30000 < (a1.size : Int)) = true := decide_eq_true c6
     have c6b1 : decide (30000 < a1.size) = true := decide_eq_true (by omega)
     clear c6
     simp only [Option.some.injEq, Prod.mk.injEq] at H
     obtain ⟨rfl, rfl⟩ := H
     go_wp2
     go_ret2
     exact ⟨by rfl, HB.out⟩
    ·rw [if_neg c6] at H
     have c6b0 : decide (30000 < (a1.size : Int)) = false := decide_eq_false c6
     have c6b1 : decide (30000 < a1.size) = false := decide_eq_false (by omega)
     clear c6
     obtain ⟨y180, hy180⟩ : ∃ y_ : List Int, y_ = (([231, (a0) % 256] : List Int)) := ⟨_, rfl⟩
     replace H : ((pack_Text.f kj2 a1).bind fun t183 => (if (strOfNums y180).size + t183.size ≤ 9223372036854775807 then ((seal_Sum.f (([(strOfNums y180) ++ t183] : List ByteArray))).bind fun t187 => ((seal_eight.f t187).bind fun t188 => (if (strOfNums y180).size + t183.size + t188.size ≤ 9223372036854775807 then (some (((strOfNums y180) ++ t183) ++ t188, 0)) else (none)))) else (none))) = some (r1, r2) := by (have H2_ := (Option.bind_some _ _).symm.trans H; rw [hy180]; with_reducible exact H2_)
     have Ny180 := Aside0.mk hy180
     clear hy180
     obtain ⟨t183, A70, H⟩ := Option.bind_eq_some_iff.mp H
     try dsimp only at H
     have A7 := Aside0.mk A70
     clear A70
     by_cases c8 : (strOfNums y180).size + t183.size ≤ 9223372036854775807
     ·rw [if_pos c8] at H
      have c8b0 := eq_true c8
      have c8b1 : decide ((strOfNums y180).size + t183.size ≤ 9223372036854775807) = true := decide_eq_true c8
      try have c8b2 : (9223372036854775807 < (strOfNums y180).size + t183.size) = False := eq_false (Nat.not_lt.2 c8)
      obtain ⟨y184, hy184⟩ : ∃ y_ : List ByteArray, y_ = (([(strOfNums y180) ++ t183] : List ByteArray)) := ⟨_, rfl⟩
      replace H : ((seal_Sum.f y184).bind fun t187 => ((seal_eight.f t187).bind fun t188 => (if (strOfNums y180).size + t183.size + t188.size ≤ 9223372036854775807 then (some (((strOfNums y180) ++ t183) ++ t188, 0)) else (none)))) = some (r1, r2) := by (rw [hy184]; with_reducible exact H)
      have Ny184 := Aside0.mk hy184
      clear hy184
      obtain ⟨t187, A90, H⟩ := Option.bind_eq_some_iff.mp H
      try dsimp only at H
      have A9 := Aside0.mk A90
      clear A90
      obtain ⟨t188, A100, H⟩ := Option.bind_eq_some_iff.mp H
      try dsimp only at H
      have A10 := Aside0.mk A100
      clear A100
      by_cases c11 : (strOfNums y180).size + t183.size + t188.size ≤ 9223372036854775807
      ·rw [if_pos c11] at H
       have c11b0 := eq_true c11
       have c11b1 : decide ((strOfNums y180).size + t183.size + t188.size ≤ 9223372036854775807) = true := decide_eq_true c11
       try have c11b2 : (9223372036854775807 < (strOfNums y180).size + t183.size + t188.size) = False := eq_false (Nat.not_lt.2 c11)
       simp only [Option.some.injEq, Prod.mk.injEq] at H
       obtain ⟨rfl, rfl⟩ := H
       try go_wp2
       have n0_ := Aside0.mk (below_drew1 HB.out)
       clear HB
       have HB := n0_
       clear n0_
       refine start_ (n := 8) (S := fun w' => True) (ds := []) #[false, false, false, false, false, false, false, false] (by kernel_rfl) rfl rfl trivial (fun hHeld => ?_); refine with_tabW seal_Seal.tab5 seal_Seal.bits5 (fun HT_ HW_ => ?_)
       generalize wc.drew = w12 at HB hHeld ⊢
       refine pure_ (i := 0) (N := some 16) (v := ?_) (a' := ?_) #[true, false, false, false, false, false, false, false] rfl rfl (any_of HT_.out (by kernel_rfl)) (fun _ _ _ h => h) (Or.inl ⟨by rfl, ?_⟩) ?_ ?_
       rotate_left
       ·intro w'
        go_simp
        with_reducible rfl
       rotate_left
       ·simp only [Act.put, List.setIfInBounds_toArray, List.set_cons_zero, List.set_cons_succ, i64_w, i32_w]
        rfl
       refine pure_ (i := 1) (N := some 17) (v := ?_) (a' := ?_) #[true, true, false, false, false, false, false, false] rfl rfl (any_of HT_.out (by kernel_rfl)) (fun _ _ _ h => h) (Or.inl ⟨by rfl, ?_⟩) ?_ ?_
       rotate_left
       ·intro w'
        go_simp
        with_reducible rfl
       rotate_left
       ·simp only [Act.put, List.setIfInBounds_toArray, List.set_cons_zero, List.set_cons_succ, i64_w, i32_w]
        rfl
       refine pure_ (i := 4) (N := some 20) (v := ?_) (a' := ?_) #[true, true, false, false, true, false, false, false] rfl rfl (any_of HT_.out (by kernel_rfl)) (fun _ _ _ h => h) (Or.inl ⟨by rfl, ?_⟩) ?_ ?_
       rotate_left
       ·intro w'
        go_simp
        with_reducible rfl
       rotate_left
       ·simp only [Act.put, List.setIfInBounds_toArray, List.set_cons_zero, List.set_cons_succ, i64_w, i32_w]
        rfl
       refine join_ (σ := Value) 2 #[true, true, true, true, true, true, false, false] (fun s_ => [(18, s_), (19, .string (strOfNums y180)), (21, .string t183)]) (fun s_ w' => (Kd.R (Kd.int .u8) 5 w' w.heap.size (fun _ => True) s_ y180) ∧ (Below w.heap.size w w')) ?_ ?_
       rotate_left
       ·intro hCont
        refine two_ (i := 2) (j := 5) (Ni := some 18) (Nj := some 21) #[true, true, true, false, true, false, false, false] #[true, true, false, false, true, true, false, false] rfl rfl rfl rfl (two_of HT_.out (by kernel_rfl)) (by decide) (by decide) (fun K hK => ?_) (fun K hK => ?_)
        ·skip
         refine Kd.R_lit_step (Kd.int .u8) _ 5 ?hg (N := 18) ?hd (xs := ([231, (a0) % 256] : List Int)) (inner := [.int .u8 231, .int .u8 ((a0) % 256)]) (ok := fun _ => True) (okp := fun _ => True) ?hr ?hp (fun _ hk => hk) trivial (Below.refl _ _) (Nat.le_refl _) (by simp) ?_; (case hd => rfl); (case hg => rfl); (case hr => (go_simp; rfl)); (case hp => exact (Reps.one (show Kd.M (Kd.int .u8) _ _ _ 231 [.int .u8 231] from rfl) (Reps.one (show Kd.M (Kd.int .u8) _ _ _ ((a0) % 256) [.int .u8 ((a0) % 256)] from rfl) (Reps.none _ _))))
         intro v181 w13 ho14 hb hg_ hnew_
         clear hg_ hnew_
         (rw [← Ny180.out] at ho14)
         have n0_ := Aside0.mk (Kd.R_lower ho14 (below_size (HB.out)))
         have n1_ := Aside0.mk (below_step (HB.out) hb)
         clear HB
         have HO182 := n0_
         have HB := n1_
         clear n0_ n1_
         clear hb ho14
         refine hK.out _ _ trivial (fun hHeld => ?_)
         clear hK K
         refine norm_ (a' := ?_) ?_ ?_
         rotate_left
         ·show Act.put _ (some 18) _ = _
          simp only [Act.put, List.setIfInBounds_toArray, List.set_cons_zero, List.set_cons_succ, i64_w, i32_w]
          rfl
         refine two_ (i := 3) (j := 5) (Ni := some 19) (Nj := some 21) #[true, true, true, true, true, false, false, false] #[true, true, true, false, true, true, false, false] rfl rfl rfl rfl (two_of HT_.out (by kernel_rfl)) (by decide) (by decide) (fun K hK => ?_) (fun K hK => ?_)
         ·skip
          have hcv15 := own_string (P := Tryd.prog) Tryd.underlying76 Tryd.underlying5 Tryd.underlying9 (Kd.own_of_R HO182.out)
          refine value_ (w1 := ?_) (v := ?_) (by rfl) rfl ?_ ?_
          rotate_left 2
          ·go_simp
           constructor
           ·rfl
           ·rfl
          clear hcv15
          refine hK.out _ _ trivial (fun hHeld => ?_)
          clear hK K
          refine norm_ (a' := ?_) ?_ ?_
          rotate_left
          ·show Act.put _ (some 19) _ = _
           simp only [Act.put, List.setIfInBounds_toArray, List.set_cons_zero, List.set_cons_succ, i64_w, i32_w]
           rfl
          refine one_ (i := 5) (N := some 21) #[true, true, true, true, true, true, false, false] rfl rfl (one_of HT_.out (by kernel_rfl)) (by decide) (fun K hK => ?_)
          refine goes_ Tryd.func32 (by kernel_rfl) rfl #[.string a1] (by rfl) rfl rfl (by (try simp only [List.map_toArray, List.map_cons, List.map_nil]); rfl) ?_
          with_reducible refine (pack_Text.calls kj2 a1 t183 _ A7.out).mono ?_
          rintro e w16 ⟨rfl, hb⟩
          refine ⟨_, rfl, ?_⟩
          have n0_ := Aside0.mk (Kd.R_below (by exact HO182.out) hb)
          have n1_ := Aside0.mk (below_step (HB.out) hb)
          clear HO182 HB
          have HO182 := n0_
          have HB := n1_
          clear n0_ n1_
          clear hb
          refine hK.out _ _ trivial (fun hHeld => ?_)
          clear hK K
          refine norm_ (a' := ?_) ?_ ?_
          rotate_left
          ·show Act.put _ (some 21) _ = _
           simp only [Act.put, List.setIfInBounds_toArray, List.set_cons_zero, List.set_cons_succ, i64_w, i32_w]
           rfl
          exact norm_ (by simp only [putAll, Act.put, List.setIfInBounds_toArray, List.set_cons_zero, List.set_cons_succ]) (hCont (v181) _ ⟨(by exact HO182.out), (HB.out)⟩)
         ·skip
          refine goes_ Tryd.func32 (by kernel_rfl) rfl #[.string a1] (by rfl) rfl rfl (by (try simp only [List.map_toArray, List.map_cons, List.map_nil]); rfl) ?_
          with_reducible refine (pack_Text.calls kj2 a1 t183 _ A7.out).mono ?_
          rintro e w15 ⟨rfl, hb⟩
          refine ⟨_, rfl, ?_⟩
          have n0_ := Aside0.mk (Kd.R_below (by exact HO182.out) hb)
          have n1_ := Aside0.mk (below_step (HB.out) hb)
          clear HO182 HB
          have HO182 := n0_
          have HB := n1_
          clear n0_ n1_
          clear hb
          refine hK.out _ _ trivial (fun hHeld => ?_)
          clear hK K
          refine norm_ (a' := ?_) ?_ ?_
          rotate_left
          ·show Act.put _ (some 21) _ = _
           simp only [Act.put, List.setIfInBounds_toArray, List.set_cons_zero, List.set_cons_succ, i64_w, i32_w]
           rfl
          refine one_ (i := 3) (N := some 19) #[true, true, true, true, true, true, false, false] rfl rfl (one_of HT_.out (by kernel_rfl)) (by decide) (fun K hK => ?_)
          have hcv16 := own_string (P := Tryd.prog) Tryd.underlying76 Tryd.underlying5 Tryd.underlying9 (Kd.own_of_R HO182.out)
          refine value_ (w1 := ?_) (v := ?_) (by rfl) rfl ?_ ?_
          rotate_left 2
          ·go_simp
           constructor
           ·rfl
           ·rfl
          clear hcv16
          refine hK.out _ _ trivial (fun hHeld => ?_)
          clear hK K
          refine norm_ (a' := ?_) ?_ ?_
          rotate_left
          ·show Act.put _ (some 19) _ = _
           simp only [Act.put, List.setIfInBounds_toArray, List.set_cons_zero, List.set_cons_succ, i64_w, i32_w]
           rfl
          exact norm_ (by simp only [putAll, Act.put, List.setIfInBounds_toArray, List.set_cons_zero, List.set_cons_succ]) (hCont (v181) _ ⟨(by exact HO182.out), (HB.out)⟩)
        ·skip
         refine goes_ Tryd.func32 (by kernel_rfl) rfl #[.string a1] (by rfl) rfl rfl (by (try simp only [List.map_toArray, List.map_cons, List.map_nil]); rfl) ?_
         with_reducible refine (pack_Text.calls kj2 a1 t183 _ A7.out).mono ?_
         rintro e w13 ⟨rfl, hb⟩
         refine ⟨_, rfl, ?_⟩
         have n0_ := Aside0.mk (below_step (HB.out) hb)
         clear HB
         have HB := n0_
         clear n0_
         clear hb
         refine hK.out _ _ trivial (fun hHeld => ?_)
         clear hK K
         refine norm_ (a' := ?_) ?_ ?_
         rotate_left
         ·show Act.put _ (some 21) _ = _
          simp only [Act.put, List.setIfInBounds_toArray, List.set_cons_zero, List.set_cons_succ, i64_w, i32_w]
          rfl
         refine one_ (i := 2) (N := some 18) #[true, true, true, false, true, true, false, false] rfl rfl (one_of HT_.out (by kernel_rfl)) (by decide) (fun K hK => ?_)
         refine Kd.R_lit_step (Kd.int .u8) _ 5 ?hg (N := 18) ?hd (xs := ([231, (a0) % 256] : List Int)) (inner := [.int .u8 231, .int .u8 ((a0) % 256)]) (ok := fun _ => True) (okp := fun _ => True) ?hr ?hp (fun _ hk => hk) trivial (Below.refl _ _) (Nat.le_refl _) (by simp) ?_; (case hd => rfl); (case hg => rfl); (case hr => (go_simp; rfl)); (case hp => exact (Reps.one (show Kd.M (Kd.int .u8) _ _ _ 231 [.int .u8 231] from rfl) (Reps.one (show Kd.M (Kd.int .u8) _ _ _ ((a0) % 256) [.int .u8 ((a0) % 256)] from rfl) (Reps.none _ _))))
         intro v181 w14 ho15 hb hg_ hnew_
         clear hg_ hnew_
         (rw [← Ny180.out] at ho15)
         have n0_ := Aside0.mk (Kd.R_lower ho15 (below_size (HB.out)))
         have n1_ := Aside0.mk (below_step (HB.out) hb)
         clear HB
         have HO182 := n0_
         have HB := n1_
         clear n0_ n1_
         clear hb ho15
         refine hK.out _ _ trivial (fun hHeld => ?_)
         clear hK K
         refine norm_ (a' := ?_) ?_ ?_
         rotate_left
         ·show Act.put _ (some 18) _ = _
          simp only [Act.put, List.setIfInBounds_toArray, List.set_cons_zero, List.set_cons_succ, i64_w, i32_w]
          rfl
         refine one_ (i := 3) (N := some 19) #[true, true, true, true, true, true, false, false] rfl rfl (one_of HT_.out (by kernel_rfl)) (by decide) (fun K hK => ?_)
         have hcv16 := own_string (P := Tryd.prog) Tryd.underlying76 Tryd.underlying5 Tryd.underlying9 (Kd.own_of_R HO182.out)
         refine value_ (w1 := ?_) (v := ?_) (by rfl) rfl ?_ ?_
         rotate_left 2
         ·go_simp
          constructor
          ·rfl
          ·rfl
         clear hcv16
         refine hK.out _ _ trivial (fun hHeld => ?_)
         clear hK K
         refine norm_ (a' := ?_) ?_ ?_
         rotate_left
         ·show Act.put _ (some 19) _ = _
          simp only [Act.put, List.setIfInBounds_toArray, List.set_cons_zero, List.set_cons_succ, i64_w, i32_w]
          rfl
         exact norm_ (by simp only [putAll, Act.put, List.setIfInBounds_toArray, List.set_cons_zero, List.set_cons_succ]) (hCont (v181) _ ⟨(by exact HO182.out), (HB.out)⟩)
       rintro v181 w17 ⟨h0_, h1_⟩
       have n0_ : Aside0 (Kd.R (Kd.int .u8) 5 w17 w.heap.size (fun _ => True) v181 y180) := ⟨h0_⟩
       have n1_ : Aside0 (Below w.heap.size w w17) := ⟨h1_⟩
       clear HB
       clear h0_ h1_
       have HO182 := n0_
       have HB := n1_
       clear n0_ n1_
       have hHeld := trivial
       refine norm_ (a' := ?_) ?_ ?_
       rotate_left
       ·simp only [putAll, Act.put, List.setIfInBounds_toArray, List.set_cons_zero, List.set_cons_succ]
        rfl
       refine pure_ (i := 6) (N := some 22) (v := ?_) (a' := ?_) #[true, true, true, true, true, true, true, false] rfl rfl (any_of HT_.out (by kernel_rfl)) (fun _ _ _ h => h) (Or.inl ⟨by rfl, ?_⟩) ?_ ?_
       rotate_left
       ·intro w'
        go_simp
        with_reducible rfl
       rotate_left
       ·simp only [Act.put, List.setIfInBounds_toArray, List.set_cons_zero, List.set_cons_succ, i64_w, i32_w]
        rfl
       refine pure_ (i := 7) (N := some 6) (v := ?_) (a' := ?_) #[true, true, true, true, true, true, true, true] rfl rfl (any_of HT_.out (by kernel_rfl)) (fun _ _ _ h => h) (Or.inl ⟨by rfl, ?_⟩) ?_ ?_
       rotate_left
       ·intro w'
        go_simp
        with_reducible rfl
       rotate_left
       ·simp only [Act.put, List.setIfInBounds_toArray, List.set_cons_zero, List.set_cons_succ, i64_w, i32_w]
        rfl
       refine done_ (done_of HT_.out (by kernel_rfl)) ?_
       try go_wp2_with (first | ((with_reducible refine gate_dst (N := 25) rfl ?_); refine Kd.R_lit Kd.string _ 9 ?hg (N := 25) ?hd (xs := ([(strOfNums y180) ++ t183] : List ByteArray)) (inner := [.string ((strOfNums y180) ++ t183)]) (ok := fun _ => True) (okp := fun _ => True) ?hr ?hp (fun _ hk => hk) trivial (Below.refl _ _) (Nat.le_refl _) (by simp) ?_; (case hd => rfl); (case hg => rfl); (case hr => (go_simp; done)); (case hp => exact (Reps.one (show Kd.M Kd.string _ _ _ ((strOfNums y180) ++ t183) [.string ((strOfNums y180) ++ t183)] from rfl) (Reps.none _ _))); intro v185 w18 ho19 hb hg_ hnew_; clear hg_ hnew_; (rw [← Ny184.out] at ho19); replace HO182 := Aside0.mk (Kd.R_below (by exact HO182.out) hb); have HO186 := Aside0.mk (Kd.R_lower ho19 (below_size (HB.out))); replace HB := Aside0.mk (below_step (HB.out) hb); clear hb ho19; obtain ⟨Ao20, co20, eo20⟩ := Kd.R_slice HO186.out; subst eo20) | ((with_reducible refine gate_callee (f := 44) rfl ?_); refine goesL_ (some 26) rfl rfl Tryd.func44 (by kernel_rfl) rfl #[.slice Ao20 y184.length co20] rfl (by (try simp only [List.map_toArray, List.map_cons, List.map_nil]); rfl) ?_; (with_reducible refine (seal_Sum.calls _ _ y184 t187 _ ?side1 ?side2 A9.out).mono ?_); (case side1 => exact (Kd.R_reads' HO186.out).2.2); (case side2 => exact (Kd.R_reads' HO186.out).2.1); rintro e w21 ⟨rfl, hb⟩; refine ⟨_, rfl, ?_⟩; replace HO182 := Aside0.mk (Kd.R_below (by exact HO182.out) hb); replace HO186 := Aside0.mk (Kd.R_below (by exact HO186.out) hb); replace HB := Aside0.mk (below_step (HB.out) hb); clear hb) | ((with_reducible refine gate_callee (f := 43) rfl ?_); refine goesL_ (some 27) rfl rfl Tryd.func43 (by kernel_rfl) rfl #[.int .u64 t187] rfl (by (try simp only [List.map_toArray, List.map_cons, List.map_nil]); rfl) ?_; (with_reducible refine (seal_eight.calls t187 t188 _ A10.out).mono ?_); rintro e w22 ⟨rfl, hb⟩; refine ⟨_, rfl, ?_⟩; replace HO182 := Aside0.mk (Kd.R_below (by exact HO182.out) hb); replace HO186 := Aside0.mk (Kd.R_below (by exact HO186.out) hb); replace HB := Aside0.mk (below_step (HB.out) hb); clear hb))
       go_ret2
       exact ⟨by rfl, HB.out⟩
      ·rw [if_neg c11] at H
       exact absurd H (by simp)
     ·rw [if_neg c8] at H
      exact absurd H (by simp)

/-! ### note_Encode: function 14 -/
def note_Encode.putn (k : Nat) (s : ByteArray) (n : Int) : Option ByteArray := (pack_Number.f k (IntKind.u64.wrap n)).bind fun t => if s.size + t.size ≤ 9223372036854775807 then some (s ++ t) else none
theorem note_Encode.putn_mono (s : ByteArray) (n : Int) (k : Nat) : LeO (note_Encode.putn k s n) (note_Encode.putn (k + 1) s n) := by
 unfold note_Encode.putn
 exact LeO.bind (pack_Number.mono _ _) (fun _ => LeO.refl _)
set_option maxHeartbeats 8000000 in
set_option maxRecDepth 100000 in
theorem note_Encode.put_calls (k : Nat) (g : Nat) (s q : ByteArray) (n : Int) (w : World) (hB : w.heap[g]? = some (.cells #[.string s] 9 (0, 0))) (h : note_Encode.putn k s n = some q) :
  Calls Tryd.prog 30 #[.int .i64 n, .pointer (some ⟨g, 0, none⟩)] w fun e w' => e = .returned (.tuple #[]) ∧ ∃ w1, Below w.heap.size w w1 ∧ w' = w1.setCell ⟨g, 0, none⟩ (.string q) := by
 unfold note_Encode.putn at h
 obtain ⟨t, ht, h⟩ := Option.bind_eq_some_iff.1 h
 by_cases hs : s.size + t.size ≤ 9223372036854775807
 case neg => rw [if_neg hs] at h; cases h
 rw [if_pos hs] at h
 obtain rfl := Option.some.inj h
 have HT := Aside0.mk ht
 have HBB := Aside0.mk hB
 have HS := Aside0.mk hs
 have hc0 : w.cell? ⟨g, 0, none⟩ = some (.string s) := blk_cell hB 0
 have hf0 : w.frozen? ⟨g, 0, none⟩ = false := blk_frozen hB 0
 have hs1 : (9223372036854775807 < s.size + t.size) = False := eq_false (by omega)
 clear ht hB h
 go_enter Tryd.func30, Tryd.ntmps30
 go_wp2
 go_region_law (go_simp; go_at_call 31; refine (pack_Number.calls k (IntKind.u64.wrap n) t _ HT.out).mono ?_; rintro e w1 ⟨rfl, hb⟩; have hc1 : w1.cell? ⟨g, 0, none⟩ = some (.string s) := (hb.cell (p := ⟨g, 0, none⟩) (blk_lt HBB.out)).trans (blk_cell HBB.out 0); have hf1 : w1.frozen? ⟨g, 0, none⟩ = false := (hb.frozen (p := ⟨g, 0, none⟩) (blk_lt HBB.out)).trans (blk_frozen HBB.out 0); have HD := Aside0.mk hb; clear hb)
 all_goals
  refine bodyPost_end (results_none rfl _ _ _) rfl ?_
  exact ⟨rfl, _, below_step (below_drew1 (Below.refl _ _)) HD.out, rfl⟩
def note_Encode.puts (k : Nat) : ByteArray → List Int → Option ByteArray
 | s, [] => some s
 | s, n :: l => (note_Encode.putn k s n).bind fun t => note_Encode.puts k t l
theorem note_Encode.puts_mono (k : Nat) : ∀ (l : List Int) (s : ByteArray), LeO (note_Encode.puts k s l) (note_Encode.puts (k + 1) s l)
 | [], s => LeO.refl _
 | n :: l, s => LeO.bind (note_Encode.putn_mono s n k) (fun t => note_Encode.puts_mono k l t)
def note_Encode.f (k : Nat) (a0_0 a0_1 a0_2 a0_3 a0_4 a0_5 a0_6 a0_7 a0_8 : Int) (l0_9 : List S50) (a0_10 : ByteArray) (a0_11 : Int) : Option (ByteArray × Int) :=
 (note_Frame.f k a0_0 a0_1 a0_2 a0_3 a0_4 a0_5 a0_6 a0_7 a0_8 l0_9 a0_10 a0_11).bind fun e => if e = 0 then (note_Encode.puts k ⟨#[]⟩ [a0_0, a0_1, a0_2, a0_3, a0_4, a0_5]).bind fun s => (if 0 < a0_3 then (ident_Show.f k a0_7 a0_8 l0_9).bind fun id => (note_Encode.putn k s a0_6).bind fun s1 => (pack_Text.f k id.1).bind fun t1 => (pack_Text.f k a0_10).bind fun t2 => (if t1.size + t2.size ≤ 9223372036854775807 ∧ s1.size + (t1.size + t2.size) ≤ 9223372036854775807 then (note_Encode.putn k (s1 ++ (t1 ++ t2)) a0_11).bind fun s2 => seal_Seal.f k 1 s2 else none) else seal_Seal.f k 1 s) else some (⟨#[]⟩, e)
theorem note_Encode.mono : ∀ a0_0 a0_1 a0_2 a0_3 a0_4 a0_5 a0_6 a0_7 a0_8 l0_9 a0_10 a0_11 k, LeO (note_Encode.f k a0_0 a0_1 a0_2 a0_3 a0_4 a0_5 a0_6 a0_7 a0_8 l0_9 a0_10 a0_11) (note_Encode.f (k + 1) a0_0 a0_1 a0_2 a0_3 a0_4 a0_5 a0_6 a0_7 a0_8 l0_9 a0_10 a0_11) := by
 intro a0_0 a0_1 a0_2 a0_3 a0_4 a0_5 a0_6 a0_7 a0_8 l0_9 a0_10 a0_11 k
 unfold note_Encode.f
 refine LeO.bind (note_Frame.mono _ _ _ _ _ _ _ _ _ _ _ _ _) (fun _ => LeO.ite (LeO.bind (note_Encode.puts_mono k _ _) (fun s => LeO.ite (LeO.bind (ident_Show.mono _ _ _ _) (fun id => LeO.bind (note_Encode.putn_mono _ _ k) (fun s1 => LeO.bind (pack_Text.mono _ _) (fun t1 => LeO.bind (pack_Text.mono _ _) (fun t2 => LeO.ite (LeO.bind (note_Encode.putn_mono _ _ k) (fun s2 => seal_Seal.mono _ _ _)) (LeO.none _)))))) (seal_Seal.mono _ _ _))) (LeO.refl _))
set_option maxHeartbeats 8000000 in
set_option maxRecDepth 100000 in
theorem note_Encode.calls (k : Nat) (a0_0 a0_1 a0_2 a0_3 a0_4 a0_5 a0_6 a0_7 a0_8 : Int) (A0_9 : Option Addr) (c0_9 : Nat) (l0_9 : List (S50)) (a0_10 : ByteArray) (a0_11 : Int) (r1 : ByteArray) (r2 : Int) (w : World) (hr0_9 : Kd.C k50 w A0_9 l0_9.length l0_9) (hc0_9 : l0_9.length ≤ c0_9) (hw_ : WH w) (h : note_Encode.f k a0_0 a0_1 a0_2 a0_3 a0_4 a0_5 a0_6 a0_7 a0_8 l0_9 a0_10 a0_11 = some (r1, r2)) :
  Calls Tryd.prog 14 #[.agg #[.int .i64 a0_0, .int .i64 a0_1, .int .i64 a0_2, .int .i64 a0_3, .int .i64 a0_4, .int .i64 a0_5, .int .i64 a0_6, .int .i64 a0_7, .int .i64 a0_8, .slice A0_9 l0_9.length c0_9, .string a0_10, .int .i64 a0_11]] w fun e w' => e = .returned (.tuple #[.string r1, .int .i64 r2]) ∧ Below w.heap.size w w' := by
 have hu1 := Tryd.underlying24
 have hu2 := Tryd.underlying50
 have hu3 := Tryd.underlying26
 have hu4 := Tryd.underlying39
 have HR := Aside0.mk hr0_9
 have HC := Aside0.mk hc0_9
 have HW := Aside0.mk hw_
 have HB := Aside0.mk (Below.refl w.heap.size w)
 unfold note_Encode.f at h
 replace h := Option.bind_eq_some_iff.1 h
 obtain ⟨e0, hf, h⟩ := h
 have HF := Aside0.mk hf
 clear hr0_9 hc0_9 hw_ hf
 by_cases e1 : e0 = 0
 case neg =>
  rw [if_neg e1] at h
  have h1 := Option.some.inj h
  simp only [Prod.mk.injEq] at h1
  obtain ⟨rfl, rfl⟩ := h1
  have e2 : (e0 != 0) = true := bne_iff_ne.2 e1
  clear h e1
  go_enter Tryd.func14, Tryd.ntmps14
  go_wp2_with (first | ((with_reducible refine gate_dst (N := 1) rfl ?_); refine box_event ?hg (N := 1) ?hd (cs := #[.int .i64 a0_0, .int .i64 a0_1, .int .i64 a0_2, .int .i64 a0_3, .int .i64 a0_4, .int .i64 a0_5, .int .i64 a0_6, .int .i64 a0_7, .int .i64 a0_8, .slice A0_9 l0_9.length c0_9, .string a0_10, .int .i64 a0_11]) (t := 39) ?hr ?_; (case hd => rfl); (case hg => rfl); (case hr => (go_simp; done)); intro gb1 hg wb1 hbox hb; have n0_ := Aside0.mk (below_step (HB.out) hb); have n3_ := Aside0.mk ((by rw [hg]; exact (below_size (HB.out)) : w.heap.size ≤ gb1)); have BK1 := Aside0.mk hbox; clear HB; have HB := n0_; have GE1 := n3_; clear n0_ n3_; clear hb hbox hg; obtain ⟨hc1_0, hf1_0, hc1_1, hf1_1, hc1_2, hf1_2, hc1_3, hf1_3, hc1_4, hf1_4, hc1_5, hf1_5, hc1_6, hf1_6, hc1_7, hf1_7, hc1_8, hf1_8, hc1_9, hf1_9, hc1_10, hf1_10, hc1_11, hf1_11⟩ := be12 BK1.out) | (go_at_call 17; refine (note_Frame.calls k a0_0 a0_1 a0_2 a0_3 a0_4 a0_5 a0_6 a0_7 a0_8 A0_9 c0_9 l0_9 a0_10 a0_11 _ _ (Kd.C_below HR.out (HB.out)) HC.out HF.out).mono ?_; rintro e wc12 ⟨rfl, hb⟩; have n0_ := Aside0.mk (below_step (HB.out) hb); have m1_ := Aside0.mk (blk_below BK1.out hb); clear HB; have HB := n0_; clear n0_ hb; clear BK1 hc1_0 hf1_0 hc1_1 hf1_1 hc1_2 hf1_2 hc1_3 hf1_3 hc1_4 hf1_4 hc1_5 hf1_5 hc1_6 hf1_6 hc1_7 hf1_7 hc1_8 hf1_8 hc1_9 hf1_9 hc1_10 hf1_10 hc1_11 hf1_11; have BK1 := m1_; clear m1_; obtain ⟨hc1_0, hf1_0, hc1_1, hf1_1, hc1_2, hf1_2, hc1_3, hf1_3, hc1_4, hf1_4, hc1_5, hf1_5, hc1_6, hf1_6, hc1_7, hf1_7, hc1_8, hf1_8, hc1_9, hf1_9, hc1_10, hf1_10, hc1_11, hf1_11⟩ := be12 BK1.out))
  go_ret2
  exact ⟨rfl, (HB.out)⟩
 rw [if_pos e1] at h
 subst e1
 replace h := Option.bind_eq_some_iff.1 h
 obtain ⟨S, hS, h⟩ := h
 have HS := Aside0.mk hS
 obtain ⟨bz, hbz⟩ : ∃ bz : Nat, True := ⟨0, trivial⟩
 have HH := Aside0.mk h
 obtain ⟨L, hL⟩ : ∃ L : List Int, L = [a0_0, a0_1, a0_2, a0_3, a0_4, a0_5] := ⟨_, rfl⟩
 have HLL := Aside0.mk hL
 have hL6 : L.length = 6 := by rw [hL]; rfl
 have HL6 := Aside0.mk hL6
 rw [← hL] at hS
 have HS := Aside0.mk hS
 clear hS hbz h hL hL6
 go_enter Tryd.func14, Tryd.ntmps14
 go_wp2_with (first | ((with_reducible refine gate_dst (N := 1) rfl ?_); refine box_event ?hg (N := 1) ?hd (cs := #[.int .i64 a0_0, .int .i64 a0_1, .int .i64 a0_2, .int .i64 a0_3, .int .i64 a0_4, .int .i64 a0_5, .int .i64 a0_6, .int .i64 a0_7, .int .i64 a0_8, .slice A0_9 l0_9.length c0_9, .string a0_10, .int .i64 a0_11]) (t := 39) ?hr ?_; (case hd => rfl); (case hg => rfl); (case hr => (go_simp; done)); intro gb1 hg wb1 hbox hb; have n0_ := Aside0.mk (below_step (HB.out) hb); have n3_ := Aside0.mk ((by rw [hg]; exact (below_size (HB.out)) : w.heap.size ≤ gb1)); have BK1 := Aside0.mk hbox; clear HB; have HB := n0_; have GE1 := n3_; clear n0_ n3_; clear hb hbox hg; obtain ⟨hc1_0, hf1_0, hc1_1, hf1_1, hc1_2, hf1_2, hc1_3, hf1_3, hc1_4, hf1_4, hc1_5, hf1_5, hc1_6, hf1_6, hc1_7, hf1_7, hc1_8, hf1_8, hc1_9, hf1_9, hc1_10, hf1_10, hc1_11, hf1_11⟩ := be12 BK1.out) | (go_at_call 17; refine (note_Frame.calls k a0_0 a0_1 a0_2 a0_3 a0_4 a0_5 a0_6 a0_7 a0_8 A0_9 c0_9 l0_9 a0_10 a0_11 _ _ (Kd.C_below HR.out (HB.out)) HC.out HF.out).mono ?_; rintro e wc12 ⟨rfl, hb⟩; have n0_ := Aside0.mk (below_step (HB.out) hb); have m1_ := Aside0.mk (blk_below BK1.out hb); clear HB; have HB := n0_; clear n0_ hb; clear BK1 hc1_0 hf1_0 hc1_1 hf1_1 hc1_2 hf1_2 hc1_3 hf1_3 hc1_4 hf1_4 hc1_5 hf1_5 hc1_6 hf1_6 hc1_7 hf1_7 hc1_8 hf1_8 hc1_9 hf1_9 hc1_10 hf1_10 hc1_11 hf1_11; have BK1 := m1_; clear m1_; obtain ⟨hc1_0, hf1_0, hc1_1, hf1_1, hc1_2, hf1_2, hc1_3, hf1_3, hc1_4, hf1_4, hc1_5, hf1_5, hc1_6, hf1_6, hc1_7, hf1_7, hc1_8, hf1_8, hc1_9, hf1_9, hc1_10, hf1_10, hc1_11, hf1_11⟩ := be12 BK1.out) | ((with_reducible refine gate_dst (N := 5) rfl ?_); refine box_event ?hg (N := 5) ?hd (cs := #[.string ⟨#[]⟩]) (t := 9) ?hr ?_; (case hd => rfl); (case hg => rfl); (case hr => (go_simp; done)); intro gb5 hg wb5 hbox hb; have n0_ := Aside0.mk (below_step (HB.out) hb); have n3_ := Aside0.mk ((by rw [hg]; exact (below_size (HB.out)) : w.heap.size ≤ gb5)); have NE1_5 : gb1 ≠ gb5 := (by rw [hg]; exact Nat.ne_of_lt (blk_lt BK1.out)); have NE5_1 := Ne.symm NE1_5; have m1_ := Aside0.mk (blk_below BK1.out hb); have BK5 := Aside0.mk hbox; clear HB; have HB := n0_; have GE5 := n3_; clear n0_ n3_; clear hb hbox hg; clear BK1 hc1_0 hf1_0 hc1_1 hf1_1 hc1_2 hf1_2 hc1_3 hf1_3 hc1_4 hf1_4 hc1_5 hf1_5 hc1_6 hf1_6 hc1_7 hf1_7 hc1_8 hf1_8 hc1_9 hf1_9 hc1_10 hf1_10 hc1_11 hf1_11; have BK1 := m1_; clear m1_; obtain ⟨hc1_0, hf1_0, hc1_1, hf1_1, hc1_2, hf1_2, hc1_3, hf1_3, hc1_4, hf1_4, hc1_5, hf1_5, hc1_6, hf1_6, hc1_7, hf1_7, hc1_8, hf1_8, hc1_9, hf1_9, hc1_10, hf1_10, hc1_11, hf1_11⟩ := be12 BK1.out; have hc5_0 : wb5.cell? ⟨gb5, 0, none⟩ = some (.string ⟨#[]⟩) := (blk_cell BK5.out 0).trans rfl; have hf5_0 := blk_frozen BK5.out 0) | ((with_reducible refine gate_store (t := 9) (p := 5) rfl ?_); refine store_event (t := 9) (p := 5) (v := ?vz_4) (w1 := (wb5.setCell ⟨gb5, 0, none⟩ (.string ⟨#[]⟩))) ?hg ?ho ?hn ?hr ?_; (case ho => rfl); (case hg => rfl); (case hn => rfl); (case hr => (go_simp; done)); intro ws5 hw; have n0_ : Aside0 (Below w.heap.size w ws5) := ⟨by rw [hw]; exact (below_set HB.out GE5.out)⟩; have n1_ : Aside0 (ws5.heap[gb5]? = some (.cells #[.string ⟨#[]⟩] 9 (0, 0))) := ⟨by rw [hw]; exact (blk_put (cs' := #[.string ⟨#[]⟩]) BK5.out 0 (.string ⟨#[]⟩) rfl)⟩; have m1_ : Aside0 (ws5.heap[gb1]? = some (.cells #[.int .i64 a0_0, .int .i64 a0_1, .int .i64 a0_2, .int .i64 a0_3, .int .i64 a0_4, .int .i64 a0_5, .int .i64 a0_6, .int .i64 a0_7, .int .i64 a0_8, .slice A0_9 l0_9.length c0_9, .string a0_10, .int .i64 a0_11] 39 (0, 0))) := ⟨by rw [hw]; exact (blk_far BK1.out NE1_5 (.string ⟨#[]⟩))⟩; clear hw HB; have HB := n0_; clear BK5 hc5_0 hf5_0; have BK5 := n1_; clear n0_ n1_; clear BK1 hc1_0 hf1_0 hc1_1 hf1_1 hc1_2 hf1_2 hc1_3 hf1_3 hc1_4 hf1_4 hc1_5 hf1_5 hc1_6 hf1_6 hc1_7 hf1_7 hc1_8 hf1_8 hc1_9 hf1_9 hc1_10 hf1_10 hc1_11 hf1_11; have BK1 := m1_; clear m1_; obtain ⟨hc1_0, hf1_0, hc1_1, hf1_1, hc1_2, hf1_2, hc1_3, hf1_3, hc1_4, hf1_4, hc1_5, hf1_5, hc1_6, hf1_6, hc1_7, hf1_7, hc1_8, hf1_8, hc1_9, hf1_9, hc1_10, hf1_10, hc1_11, hf1_11⟩ := be12 BK1.out; have hc5_0 : ws5.cell? ⟨gb5, 0, none⟩ = some (.string ⟨#[]⟩) := (blk_cell BK5.out 0).trans rfl; have hf5_0 := blk_frozen BK5.out 0) | ((with_reducible refine gate_dst (N := 29) rfl ?_); refine Kd.R_lit (Kd.int .i64) _ 3 ?hg (N := 29) ?hd (xs := ([a0_0, a0_1, a0_2, a0_3, a0_4, a0_5] : List Int)) (inner := [.int .i64 a0_0, .int .i64 a0_1, .int .i64 a0_2, .int .i64 a0_3, .int .i64 a0_4, .int .i64 a0_5]) (ok := fun _ => True) (okp := fun _ => True) ?hr ?hp (fun _ hk => hk) trivial (Below.refl _ _) (Nat.le_refl _) (by simp) ?_; (case hd => rfl); (case hg => rfl); (case hr => (go_simp; done)); (case hp => exact (Reps.one (show Kd.M (Kd.int .i64) _ _ _ a0_0 [.int .i64 a0_0] from rfl) (Reps.one (show Kd.M (Kd.int .i64) _ _ _ a0_1 [.int .i64 a0_1] from rfl) (Reps.one (show Kd.M (Kd.int .i64) _ _ _ a0_2 [.int .i64 a0_2] from rfl) (Reps.one (show Kd.M (Kd.int .i64) _ _ _ a0_3 [.int .i64 a0_3] from rfl) (Reps.one (show Kd.M (Kd.int .i64) _ _ _ a0_4 [.int .i64 a0_4] from rfl) (Reps.one (show Kd.M (Kd.int .i64) _ _ _ a0_5 [.int .i64 a0_5] from rfl) (Reps.none _ _)))))))); intro v29 wl ho29 hb hg_ hnew_; clear hg_ hnew_; rw [← HLL.out] at ho29; have n0_ := Aside0.mk (below_step (HB.out) hb); have n1_ := Aside0.mk (blk_below BK1.out hb); have n5_ := Aside0.mk (blk_below BK5.out hb); have HO29 := Aside0.mk ho29; clear hb ho29 HB BK1 BK5 hc1_0 hf1_0 hc1_1 hf1_1 hc1_2 hf1_2 hc1_3 hf1_3 hc1_4 hf1_4 hc1_5 hf1_5 hc1_6 hf1_6 hc1_7 hf1_7 hc1_8 hf1_8 hc1_9 hf1_9 hc1_10 hf1_10 hc1_11 hf1_11 hc5_0 hf5_0; have HB := n0_; have BK1 := n1_; have BK5 := n5_; clear n0_ n1_ n5_; obtain ⟨A29, c29, e29⟩ := Kd.R_slice HO29.out; subst e29; rw [HL6.out]))
 (try clear hc1_0 hf1_0 hc1_1 hf1_1 hc1_2 hf1_2 hc1_3 hf1_3 hc1_4 hf1_4 hc1_5 hf1_5 hc1_6 hf1_6 hc1_7 hf1_7 hc1_8 hf1_8 hc1_9 hf1_9 hc1_10 hf1_10 hc1_11 hf1_11)
 go_loopg [31] 6 (fun kq v31 w' => ∃ (i : Nat) (s : ByteArray), v31 = .int .i64 (i : Int) ∧ Aside0 (kq = 6 - i) ∧ Aside0 (i ≤ 6) ∧ Aside0 (note_Encode.puts k s (L.drop i) = some S) ∧ Aside0 (Kd.R (Kd.int .i64) 3 w' ws5.heap.size (fun _ => True) (.slice A29 L.length c29) L) ∧ Aside0 (w'.heap[gb1]? = some (.cells #[.int .i64 a0_0, .int .i64 a0_1, .int .i64 a0_2, .int .i64 a0_3, .int .i64 a0_4, .int .i64 a0_5, .int .i64 a0_6, .int .i64 a0_7, .int .i64 a0_8, .slice A0_9 l0_9.length c0_9, .string a0_10, .int .i64 a0_11] 39 (0, 0))) ∧ Aside0 (w'.heap[gb5]? = some (.cells #[.string s] 9 (0, 0))) ∧ Aside0 (Below w.heap.size w w'))
 case atStart => exact ⟨0, ⟨#[]⟩, rfl, ⟨rfl⟩, ⟨Nat.zero_le _⟩, HS, ⟨HO29.out⟩, ⟨BK1.out⟩, ⟨BK5.out⟩, ⟨HB.out⟩⟩
 case round =>
  clear HO29 BK1 BK5 HB HS
  obtain ⟨i, s, rfl, HK, HI, HA, HO29, BK1, BK5, HB⟩ := hrel
  by_cases hlt : i < 6
  ·have d1 : decide ((i : Int) < 6) = true := decide_eq_true (by omega)
   have d2 : (0 ≤ (i : Int)) = True := eq_true (by omega)
   have d3 : ((i : Int) < 6) = True := eq_true (by omega)
   have h6 := HL6.out
   obtain ⟨ad, e, hx⟩ := Kd.at_int (Kd.R_reads' HO29.out).2.2 (i : Int) (by omega) (by omega)
   subst e
   rw [Int.toNat_natCast] at hx
   have hd : L.drop i = rd L (i : Int) :: L.drop (i + 1) := by
    rw [List.drop_eq_getElem_cons (by omega)]
    unfold rd
    rw [Int.toNat_natCast, List.getD_eq_getElem?_getD, List.getElem?_eq_getElem (by omega)]
    rfl
   have hA := HA.out
   rw [hd] at hA
   generalize rd L (i : Int) = n at hx hA
   obtain ⟨q, hq, hA⟩ := Option.bind_eq_some_iff.1 (show (note_Encode.putn k s n).bind (fun t => note_Encode.puts k t (L.drop (i + 1))) = some S from hA)
   have Hq := Aside0.mk hq
   have HA2 := Aside0.mk hA
   have HLT := Aside0.mk hlt
   have hi2 : wrap64 ((i : Int) + 1) = ((i + 1 : Nat) : Int) := by rw [IntWalk.wrap64_in _ (by omega)]; omega
   clear hd HA hq hA hlt h6
   go_wp2_with (first | (go_at_call 30; refine (note_Encode.put_calls k gb5 s q n _ BK5.out Hq.out).mono ?_; rintro e wq1 ⟨rfl, wz1, hb, hw⟩; have n0_ : Aside0 (Below w.heap.size w wq1) := ⟨by rw [hw]; exact below_set (below_step HB.out hb) GE5.out⟩; have n1_ : Aside0 (wq1.heap[gb1]? = some (.cells #[.int .i64 a0_0, .int .i64 a0_1, .int .i64 a0_2, .int .i64 a0_3, .int .i64 a0_4, .int .i64 a0_5, .int .i64 a0_6, .int .i64 a0_7, .int .i64 a0_8, .slice A0_9 l0_9.length c0_9, .string a0_10, .int .i64 a0_11] 39 (0, 0))) := ⟨by rw [hw]; exact blk_far (blk_below BK1.out hb) NE1_5 _⟩; have n5_ : Aside0 (wq1.heap[gb5]? = some (.cells #[.string q] 9 (0, 0))) := ⟨by rw [hw]; exact blk_put (blk_below BK5.out hb) 0 _ rfl⟩; have n9_ := Aside0.mk (show Kd.R (Kd.int .i64) 3 wq1 ws5.heap.size (fun _ => True) (.slice _ L.length c29) L from (by rw [hw]; exact Kd.R_set (Kd.R_below HO29.out hb) (blk_below BK5.out hb) (by decide) 0 _)); clear HO29; have HO29 := n9_; clear n9_; clear hw hb HB BK1 BK5; have HB := n0_; have BK1 := n1_; have BK5 := n5_; clear n0_ n1_ n5_))
   obtain ⟨k1, hk⟩ : ∃ k, 6 - i = k + 1 := ⟨6 - i - 1, by have := HLT.out; omega⟩
   go_roundg k1
   case measure => have := HK.out; omega
   case rel => exact ⟨i + 1, q, by rw [hi2], ⟨by omega⟩, ⟨by have := HLT.out; omega⟩, HA2, HO29, BK1, BK5, HB⟩
  ·have d1 : decide ((i : Int) < 6) = false := decide_eq_false (by omega)
   have hs : s = S := by
    have hA := HA.out
    rw [List.drop_of_length_le (by have := HL6.out; omega)] at hA
    exact Option.some.inj hA
   subst hs
   clear HA HI HK HO29
   obtain ⟨hc1_0, hf1_0, hc1_1, hf1_1, hc1_2, hf1_2, hc1_3, hf1_3, hc1_4, hf1_4, hc1_5, hf1_5, hc1_6, hf1_6, hc1_7, hf1_7, hc1_8, hf1_8, hc1_9, hf1_9, hc1_10, hf1_10, hc1_11, hf1_11⟩ := be12 BK1.out
   have hc5_0 : wr.cell? ⟨gb5, 0, none⟩ = some (.string s) := (blk_cell BK5.out 0).trans rfl
   have hf5_0 := blk_frozen BK5.out 0
   have h := HH.out
   by_cases g1 : 0 < a0_3
   case neg =>
    rw [if_neg g1] at h
    have HZ := Aside0.mk h
    have g2 : decide (0 < a0_3) = false := decide_eq_false g1
    clear h HH g1
    go_wp2_with (first | (go_at_call 33; refine (seal_Seal.calls k 1 s r1 r2 _ HZ.out).mono ?_; rintro e wc69 ⟨rfl, hb⟩; replace HB := Aside0.mk (below_step (HB.out) hb); clear hb))
    go_ret2
    exact ⟨rfl, (HB.out)⟩
   rw [if_pos g1] at h
   obtain ⟨⟨id1, id2⟩, hid, h⟩ := Option.bind_eq_some_iff.1 h
   obtain ⟨s1, hs1, h⟩ := Option.bind_eq_some_iff.1 h
   obtain ⟨t1, ht1, h⟩ := Option.bind_eq_some_iff.1 h
   obtain ⟨t2, ht2, h⟩ := Option.bind_eq_some_iff.1 h
   replace ht1 : pack_Text.f k id1 = some t1 := ht1
   by_cases hz : t1.size + t2.size ≤ 9223372036854775807 ∧ s1.size + (t1.size + t2.size) ≤ 9223372036854775807
   case neg => rw [if_neg hz] at h; cases h
   rw [if_pos hz] at h
   obtain ⟨s2, hs2, h⟩ := Option.bind_eq_some_iff.1 h
   have HID := Aside0.mk hid
   have HS1 := Aside0.mk hs1
   have HT1 := Aside0.mk ht1
   have HT2 := Aside0.mk ht2
   have HS2 := Aside0.mk hs2
   have HZ := Aside0.mk h
   have g2 : decide (0 < a0_3) = true := decide_eq_true g1
   have z1 : (9223372036854775807 < t1.size + t2.size) = False := eq_false (by omega)
   have z2 : (9223372036854775807 < s1.size + (t1.size + t2.size)) = False := eq_false (by omega)
   clear h HH g1 hid hs1 ht1 ht2 hs2 hz
   go_wp2_with (first | (go_at_call 22; refine (ident_Show.calls k a0_7 a0_8 A0_9 c0_9 l0_9 id1 id2 _ (Kd.C_below HR.out (HB.out)) HC.out (WH.below HW.out (HB.out)) HID.out).mono ?_; rintro e wc46 ⟨rfl, hb⟩; have n0_ := Aside0.mk (below_step (HB.out) hb); have m1_ := Aside0.mk (blk_below BK1.out hb); have m5_ := Aside0.mk (blk_below BK5.out hb); clear HB; have HB := n0_; clear n0_ hb; clear BK1 hc1_0 hf1_0 hc1_1 hf1_1 hc1_2 hf1_2 hc1_3 hf1_3 hc1_4 hf1_4 hc1_5 hf1_5 hc1_6 hf1_6 hc1_7 hf1_7 hc1_8 hf1_8 hc1_9 hf1_9 hc1_10 hf1_10 hc1_11 hf1_11; have BK1 := m1_; clear m1_; obtain ⟨hc1_0, hf1_0, hc1_1, hf1_1, hc1_2, hf1_2, hc1_3, hf1_3, hc1_4, hf1_4, hc1_5, hf1_5, hc1_6, hf1_6, hc1_7, hf1_7, hc1_8, hf1_8, hc1_9, hf1_9, hc1_10, hf1_10, hc1_11, hf1_11⟩ := be12 BK1.out; clear BK5 hc5_0 hf5_0; have BK5 := m5_; clear m5_; have hc5_0 : wc46.cell? ⟨gb5, 0, none⟩ = some (.string s) := (blk_cell BK5.out 0).trans rfl; have hf5_0 := blk_frozen BK5.out 0) | (go_at_call 30; refine (note_Encode.put_calls k gb5 s s1 a0_6 _ BK5.out HS1.out).mono ?_; rintro e wq53 ⟨rfl, wz53, hb, hw⟩; have n0_ : Aside0 (Below w.heap.size w wq53) := ⟨by rw [hw]; exact below_set (below_step HB.out hb) GE5.out⟩; have n1_ : Aside0 (wq53.heap[gb1]? = some (.cells #[.int .i64 a0_0, .int .i64 a0_1, .int .i64 a0_2, .int .i64 a0_3, .int .i64 a0_4, .int .i64 a0_5, .int .i64 a0_6, .int .i64 a0_7, .int .i64 a0_8, .slice A0_9 l0_9.length c0_9, .string a0_10, .int .i64 a0_11] 39 (0, 0))) := ⟨by rw [hw]; exact blk_far (blk_below BK1.out hb) NE1_5 _⟩; have n5_ : Aside0 (wq53.heap[gb5]? = some (.cells #[.string s1] 9 (0, 0))) := ⟨by rw [hw]; exact blk_put (blk_below BK5.out hb) 0 _ rfl⟩; clear hw hb HB BK1 BK5; (try clear hc1_0 hf1_0 hc1_1 hf1_1 hc1_2 hf1_2 hc1_3 hf1_3 hc1_4 hf1_4 hc1_5 hf1_5 hc1_6 hf1_6 hc1_7 hf1_7 hc1_8 hf1_8 hc1_9 hf1_9 hc1_10 hf1_10 hc1_11 hf1_11 hc5_0 hf5_0); have HB := n0_; have BK1 := n1_; have BK5 := n5_; clear n0_ n1_ n5_; have hc1_10 : wq53.cell? ⟨gb1, 10, none⟩ = some (.string a0_10) := (blk_cell BK1.out 10).trans rfl; have hf1_10 := blk_frozen BK1.out 10; have hc1_11 : wq53.cell? ⟨gb1, 11, none⟩ = some (.int .i64 a0_11) := (blk_cell BK1.out 11).trans rfl; have hf1_11 := blk_frozen BK1.out 11; have hc5_0 : wq53.cell? ⟨gb5, 0, none⟩ = some (.string s1) := (blk_cell BK5.out 0).trans rfl; have hf5_0 := blk_frozen BK5.out 0))
   go_region_law (first | (go_simp; go_at_call 32; (with_reducible refine (pack_Text.calls k id1 t1 _ HT1.out).mono ?_); rintro e wx ⟨rfl, hb⟩; have HD1 := Aside0.mk (below_step (below_drew1 (Below.refl wq53.heap.size wq53)) hb); have BX5 := Aside0.mk (blk_below BK5.out HD1.out); have BX1 := Aside0.mk (blk_below BK1.out HD1.out); have hx5 : wx.cell? ⟨gb5, 0, none⟩ = some (.string s1) := (blk_cell BX5.out 0).trans rfl; have hy5 := blk_frozen BX5.out 0; have hx1 : wx.cell? ⟨gb1, 10, none⟩ = some (.string a0_10) := (blk_cell BX1.out 10).trans rfl; clear hb) | (go_simp; go_at_call 32; (with_reducible refine (pack_Text.calls k a0_10 t2 _ HT2.out).mono ?_); rintro e wy ⟨rfl, hb⟩; have HD2 := Aside0.mk (below_step HD1.out hb); have BZ5 := Aside0.mk (blk_below BK5.out HD2.out); have BZ1 := Aside0.mk (blk_below BK1.out HD2.out); have hz5 : wy.cell? ⟨gb5, 0, none⟩ = some (.string s1) := (blk_cell BZ5.out 0).trans rfl; have hzf5 := blk_frozen BZ5.out 0; clear hb))
   all_goals
    obtain ⟨wv, hwv⟩ : ∃ wv, wv = wy.setCell ⟨gb5, 0, none⟩ (.string (s1 ++ (t1 ++ t2))) := ⟨_, rfl⟩
    rw [← hwv]
    have n0_ : Aside0 (Below w.heap.size w wv) := ⟨by rw [hwv]; exact below_set (below_step HB.out HD2.out) GE5.out⟩
    have n1_ : Aside0 (wv.heap[gb1]? = some (.cells #[.int .i64 a0_0, .int .i64 a0_1, .int .i64 a0_2, .int .i64 a0_3, .int .i64 a0_4, .int .i64 a0_5, .int .i64 a0_6, .int .i64 a0_7, .int .i64 a0_8, .slice A0_9 l0_9.length c0_9, .string a0_10, .int .i64 a0_11] 39 (0, 0))) := ⟨by rw [hwv]; exact blk_far BZ1.out NE1_5 _⟩
    have n5_ : Aside0 (wv.heap[gb5]? = some (.cells #[.string (s1 ++ (t1 ++ t2))] 9 (0, 0))) := ⟨by rw [hwv]; exact blk_put BZ5.out 0 _ rfl⟩
    clear hwv HB BK1 BK5 hc5_0 hf5_0 hc1_10 hf1_10 hc1_11 hf1_11 hx5 hy5 hx1 hz5 hzf5 BX1 BX5 BZ1 BZ5 HD1 HD2
    have HB := n0_
    have BK1 := n1_
    have BK5 := n5_
    clear n0_ n1_ n5_
    have hc1_11 : wv.cell? ⟨gb1, 11, none⟩ = some (.int .i64 a0_11) := (blk_cell BK1.out 11).trans rfl
    have hf1_11 := blk_frozen BK1.out 11
    have hc5_0 : wv.cell? ⟨gb5, 0, none⟩ = some (.string (s1 ++ (t1 ++ t2))) := (blk_cell BK5.out 0).trans rfl
    have hf5_0 := blk_frozen BK5.out 0
    go_wp2_with (first | (go_at_call 30; refine (note_Encode.put_calls k gb5 (s1 ++ (t1 ++ t2)) s2 a0_11 _ BK5.out HS2.out).mono ?_; rintro e wq67 ⟨rfl, wz67, hb, hw⟩; have n0_ : Aside0 (Below w.heap.size w wq67) := ⟨by rw [hw]; exact below_set (below_step HB.out hb) GE5.out⟩; have n5_ : Aside0 (wq67.heap[gb5]? = some (.cells #[.string s2] 9 (0, 0))) := ⟨by rw [hw]; exact blk_put (blk_below BK5.out hb) 0 _ rfl⟩; clear hw hb HB BK5 BK1 hc5_0 hf5_0 hc1_11 hf1_11; have HB := n0_; have BK5 := n5_; clear n0_ n5_; have hc5_0 : wq67.cell? ⟨gb5, 0, none⟩ = some (.string s2) := (blk_cell BK5.out 0).trans rfl; have hf5_0 := blk_frozen BK5.out 0) | (go_at_call 33; refine (seal_Seal.calls k 1 s2 r1 r2 _ HZ.out).mono ?_; rintro e wc69 ⟨rfl, hb⟩; replace HB := Aside0.mk (below_step (HB.out) hb); clear hb))
    go_ret2
    exact ⟨rfl, (HB.out)⟩

end Go.Proofs.YtlaeihdldofkcaaDoor.PN
