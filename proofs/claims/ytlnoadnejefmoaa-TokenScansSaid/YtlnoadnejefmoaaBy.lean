import Derived.Test.YtlnoadnejefmoaaSpec
import Derived.Lib.Strings
import Derived.WalkKit
import Derived.MapKept
import Derived.Lib.IndexLaws
set_option linter.unusedVariables false
set_option linter.unusedSimpArgs false
namespace Go.Proofs.Ytlnoadnejefmoaa
open Go.RowKit

theorem byte_at (s : ByteArray) (k : Nat) (h : k < s.size) : s.data.toList.drop k = s[k] :: s.data.toList.drop (k + 1) := by
  have h' : k < s.data.toList.length := by simpa using h
  rw [List.drop_eq_getElem_cons h']; rfl
theorem len_data (s : ByteArray) : s.data.toList.length = s.size := by rw [Array.length_toList]; rfl
theorem ba_ext {a b : ByteArray} (h : a.data.toList = b.data.toList) : a = b := by
  obtain ⟨⟨a⟩⟩ := a
  obtain ⟨⟨b⟩⟩ := b
  simp at h
  rw [h]
theorem tx_list (l : List UInt8) : (tx l).data.toList = l := rfl
theorem tx_data (s : ByteArray) : tx s.data.toList = s := ba_ext rfl
theorem tx_inj {a b : List UInt8} (h : tx a = tx b) : a = b := congrArg (fun s : ByteArray => s.data.toList) h
theorem tx_size (l : List UInt8) : (tx l).size = l.length := by simp [tx, ByteArray.size]
theorem ext_tx (s : ByteArray) (a b : Nat) : s.extract a b = tx ((s.data.toList.drop a).take (b - a)) := ba_ext (Lib.extract_data s a b)
theorem ext0_tx (s : ByteArray) (b : Nat) : s.extract 0 b = tx (s.data.toList.take b) := by rw [ext_tx]; rfl
theorem extE_list (s : ByteArray) (a : Nat) : (s.extract a s.size).data.toList = s.data.toList.drop a := by
  rw [Lib.extract_data, List.take_of_length_le]
  rw [List.length_drop, len_data]
  omega
theorem str_eqb (a b : ByteArray) : (a.toList == b.toList) = (a.data.toList == b.data.toList) := by rw [Lib.toList_data, Lib.toList_data]
theorem str_eq (a b : ByteArray) : (a.toList = b.toList) = (a.data.toList = b.data.toList) := by rw [Lib.toList_data, Lib.toList_data]
theorem head_at (s : ByteArray) (h : 0 < s.size) : ∃ t, s.data.toList = s[0] :: t := ⟨_, by have := byte_at s 0 h; simpa using this⟩
theorem ret_boolE {a b : Bool} (h : a = b) : Ending.returned (.bool a) = .returned (.bool b) := by rw [h]
theorem ret_intE {k : IntKind} {a b : Int} (h : a = b) : Ending.returned (.int k a) = .returned (.int k b) := by rw [h]
theorem ret_strE {a b : ByteArray} (h : a = b) : Ending.returned (.string a) = .returned (.string b) := by rw [h]
theorem isKw_list (l : List (List UInt8)) (s : ByteArray) : (l.map tx).any (s == ·) = l.any (s.data.toList == ·) := by
  rw [List.any_map]
  congr 1
  funext x
  show (s == tx x) = (s.data.toList == x)
  rw [Bool.eq_iff_iff]
  rw [MapKept.bytes_beq, beq_iff_eq]
  exact ⟨fun h => by rw [h]; rfl, fun h => by rw [← h]; exact (tx_data s).symm⟩
theorem toList_nil (s : ByteArray) (h : s.size = 0) : s.toList = [] := by
  rw [Lib.toList_data]
  exact List.eq_nil_of_length_eq_zero (by rw [len_data]; exact h)
theorem toList_cons (s : ByteArray) (h : 0 < s.size) : ¬ s.toList = [] := by
  rw [Lib.toList_data]
  intro e
  have := len_data s
  rw [e] at this
  simp at this
  omega
theorem wordT_data (s : ByteArray) : ((s.extract 0 (wordLen s.data.toList)).toList = s.toList) = (wordLen s.data.toList = s.data.toList.length) := by
  rw [Lib.toList_data, Lib.toList_data, ext0_tx, tx_list, eq_iff_iff]
  have h := wordLen_le s.data.toList
  constructor
  · intro e
    have := congrArg List.length e
    rw [List.length_take] at this
    omega
  · intro e
    rw [e, List.take_length]
/-! The same on strings: no rule of the walk looks into these. -/
def pfxB (p s : ByteArray) : Bool := pfxL p.data.toList s.data.toList
def idxB (s : ByteArray) (c : UInt8) : Int := Lib.indexByte s.data.toList c
def nameB (s : ByteArray) : Bool := nameL s.data.toList
def kwB (s : ByteArray) : Bool := isKwL s.data.toList
def markB (s : ByteArray) : Bool := isMarkL s.data.toList
def skipB (s : ByteArray) : Nat := skipGo false s.data.toList
def wordS (s : ByteArray) : ByteArray := s.extract 0 (wordLen s.data.toList)
theorem idxB_ge (s : ByteArray) (c : UInt8) : -1 ≤ idxB s c := Lib.indexByte_ge _ _
theorem idxB_lt (s : ByteArray) (c : UInt8) (h : 0 < s.size) : idxB s c < s.size := by
  unfold idxB
  rcases Int.lt_or_le (Lib.indexByte s.data.toList c) 0 with h1 | h1
  · omega
  · obtain ⟨o, ho⟩ := Int.eq_ofNat_of_zero_le h1
    have h2 := (Lib.indexByte_some ho).1
    have h3 := (List.getElem?_eq_some_iff.1 h2).1
    rw [len_data] at h3
    omega
/-- Behind the two slashes of a comment. -/
theorem comment_none (s : ByteArray) (k : Nat) (hk : k ≤ s.size) (hp : pfxB ⟨#[47, 47]⟩ (s.extract k s.size) = true) (hi : idxB (s.extract k s.size) 10 < 0) : k + skipGo false (s.data.toList.drop k) = s.size := by
  unfold pfxB at hp
  unfold idxB at hi
  rw [extE_list] at hp hi
  rw [skipGo_slash _ hp]
  have e : Lib.indexByte (s.data.toList.drop k) 10 = -1 := by have := Lib.indexByte_ge (s.data.toList.drop k) 10; omega
  rw [skipGo_none _ (Lib.indexByte_none e), List.length_drop, len_data]
  omega
theorem comment_some (s : ByteArray) (k : Nat) (hk : k ≤ s.size) (hp : pfxB ⟨#[47, 47]⟩ (s.extract k s.size) = true) (hi : 0 ≤ idxB (s.extract k s.size) 10) :
    ∃ o : Nat, idxB (s.extract k s.size) 10 = o ∧ 0 < o ∧ k + o < s.size ∧ k + skipGo false (s.data.toList.drop k) = (k + o) + skipGo false (s.data.toList.drop (k + o)) := by
  obtain ⟨o, ho⟩ := Int.eq_ofNat_of_zero_le hi
  refine ⟨o, ho, ?_⟩
  unfold pfxB at hp
  unfold idxB at ho
  rw [extE_list] at hp ho
  obtain ⟨h1, h2⟩ := Lib.indexByte_some ho
  have h3 := (List.getElem?_eq_some_iff.1 h1).1
  rw [List.length_drop, len_data] at h3
  have hpos : 0 < o := by
    rcases Nat.eq_zero_or_pos o with h | h
    · subst h
      exfalso
  
      match hd : s.data.toList.drop k, hp, h1 with
      | [], hp, h1 => simp at h1
      | [a], hp, h1 => simp [pfxL, List.isPrefixOf] at hp
      | a :: b :: t, hp, h1 =>
        simp [pfxL, List.isPrefixOf] at hp
        simp at h1
        obtain ⟨rfl, _⟩ := hp
        exact absurd h1 (by decide)
    · exact h
  refine ⟨hpos, by omega, ?_⟩
  rw [skipGo_slash _ hp, skipGo_some _ o h1 h2, List.drop_drop]
  omega
theorem post_res {P : Program} {fn : Func} {R : Ending → World → Prop} {a : Act} {w : World} (hd : a.defers = []) (h : ∃ v, (results fn a.tmps).run P w = .ok v w ∧ R (.returned v) w) : bodyPost P fn R .ret a w := ⟨hd, h⟩
theorem bcell {W w1 : World} (hb : Below W.heap.size W w1) : (∀ b o, b < W.heap.size → w1.cell? ⟨b, o, none⟩ = W.cell? ⟨b, o, none⟩) ∧ (∀ b o, b < W.heap.size → w1.frozen? ⟨b, o, none⟩ = W.frozen? ⟨b, o, none⟩) :=
  ⟨fun b o h => hb.cell (p := ⟨b, o, none⟩) h, fun b o h => hb.frozen (p := ⟨b, o, none⟩) h⟩
theorem pfx2 (a b : UInt8) (s : ByteArray) (h : pfxB ⟨#[a, b]⟩ s = true) : ∃ t, s.data.toList = a :: b :: t := by
  unfold pfxB pfxL at h
  match hd : s.data.toList, h with
  | [], h => simp [List.isPrefixOf] at h
  | [x], h => simp [List.isPrefixOf] at h
  | x :: y :: t, h =>
    simp [List.isPrefixOf] at h
    obtain ⟨rfl, rfl⟩ := h
    exact ⟨t, rfl⟩
theorem wordS_data (s : ByteArray) : (wordS s).data.toList = wordT s.data.toList := by unfold wordS wordT; rw [ext0_tx]; rfl
theorem wordS_size (s : ByteArray) : (wordS s).size = (wordT s.data.toList).length := by rw [← len_data, wordS_data]
end Go.Proofs.Ytlnoadnejefmoaa
