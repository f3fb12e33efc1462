/- The reference's put and Add, plainly; its Build, walked. At most 100000 declarations and references, names of at most 1000000 bytes. -/
import Derived.Test.YtlogobmimacpgaaSyD
import Derived.Test.YtlogobmimacpgaaL32x2
import Derived.Test.YtlogobmimacpgaaL32x10
import Derived.Test.YtlogobmimacpgaaSyE
import Derived.Test.YtlogobmimacpgaaL32Get
set_option linter.unusedVariables false
set_option linter.unusedSimpArgs false
namespace Go.Proofs.Ytlogobmimacpgaa.L32
open Go.RowKit Go.Proofs.YtlogobmimacpgaaW.PrintWords Go.Proofs.Ytlogobmimacpgaa.Idx
theorem rdA (l : List S56) (n : Nat) (h : n < l.length) : rd_T56 l (n : Int) = l[n] := by
  unfold rd_T56
  rw [Int.toNat_natCast, List.getD_eq_getElem?_getD, List.getElem?_eq_getElem h]
  rfl
theorem rdP (l : List S58) (n : Nat) (h : n < l.length) : rd_T58 l (n : Int) = l[n] := by
  unfold rd_T58
  rw [Int.toNat_natCast, List.getD_eq_getElem?_getD, List.getElem?_eq_getElem h]
  rfl
theorem nsucc (n : Nat) : ((n + 1 : Nat) : Int) = (n : Int) + 1 := by omega
/-! The same list twice. -/
theorem sameAt_from (l : List S56) (hl : l.length ≤ 1000000) : ∀ (d n k : Nat), n + d = l.length → d < k → codesearchref32_SameAt.l0 k l l (n : Int) = some true := by
  intro d
  induction d with
  | zero =>
    intro n k hn hk
    obtain ⟨k, rfl⟩ : ∃ q, k = q + 1 := ⟨k - 1, by omega⟩
    unfold codesearchref32_SameAt.l0
    rw [if_neg (by omega)]
  | succ d ih =>
    intro n k hn hk
    obtain ⟨k, rfl⟩ : ∃ q, k = q + 1 := ⟨k - 1, by omega⟩
    have h := ih (n + 1) k (by omega) (by omega)
    rw [nsucc] at h
    unfold codesearchref32_SameAt.l0
    rw [if_pos (by omega), if_pos (by omega), if_pos (by omega), if_neg (by simp), wrap_in _ (by omega) (by omega)]
    exact h
theorem sameAt_self (l : List S56) (hl : l.length ≤ 1000000) (k : Nat) (hk : l.length < k) : codesearchref32_SameAt.f k l l = some true := by
  unfold codesearchref32_SameAt.f
  rw [if_pos rfl]
  exact sameAt_from l hl l.length 0 k (by omega) hk
theorem same_from (l : List S58) (hl : l.length ≤ 1000000) (ha : ∀ p ∈ l, p.f1.length ≤ 1000000) : ∀ (d n k : Nat), n + d = l.length → d + 1000000 < k → codesearchref32_Same.l0 k l l (n : Int) = some true := by
  intro d
  induction d with
  | zero =>
    intro n k hn hk
    obtain ⟨k, rfl⟩ : ∃ q, k = q + 1 := ⟨k - 1, by omega⟩
    unfold codesearchref32_Same.l0
    rw [if_neg (by omega)]
  | succ d ih =>
    intro n k hn hk
    obtain ⟨k, rfl⟩ : ∃ q, k = q + 1 := ⟨k - 1, by omega⟩
    have h := ih (n + 1) k (by omega) (by omega)
    rw [nsucc] at h
    have hm := ha _ (List.getElem_mem (show n < l.length by omega))
    unfold codesearchref32_Same.l0
    rw [if_pos (by omega), if_pos (by omega), if_pos (by omega), if_pos rfl, rdP l n (by omega), sameAt_self _ hm k (by omega)]
    simp only [Option.bind_some]
    rw [if_pos (by trivial), wrap_in _ (by omega) (by omega)]
    exact h
theorem same_self (l : List S58) (hl : l.length ≤ 1000000) (ha : ∀ p ∈ l, p.f1.length ≤ 1000000) (k : Nat) (hk : l.length + 1000000 < k) : codesearchref32_Same.f k l l = some true := by
  unfold codesearchref32_Same.f
  rw [if_pos rfl]
  exact same_from l hl ha l.length 0 k (by omega) hk
/-! put. -/
theorem before_f (x y : S56) : codesearchref32_Before.f x.f0 x.f1 x.f2 x.f3 y.f0 y.f1 y.f2 y.f3 = some (ltS x y) := by
  unfold codesearchref32_Before.f ltS ltA occ ltN
  simp only
  split
  · split
    · split <;> rfl
    · rfl
  · rfl
theorem put_done (x0 : List S56) (hx : x0.length ≤ 1000000) (x : S56) : ∀ (d n k : Nat) (acc : List S56), n + d = x0.length → 2 * d < k → acc.length ≤ n + 1 → codesearchref32_put.l0 k x0 acc true (n : Int) x.f0 x.f1 x.f2 x.f3 = some (acc ++ x0.drop n) := by
  intro d
  induction d with
  | zero =>
    intro n k acc hn hk ha
    obtain ⟨k, rfl⟩ : ∃ q, k = q + 1 := ⟨k - 1, by omega⟩
    unfold codesearchref32_put.l0
    rw [if_neg (by omega), if_pos rfl, List.drop_of_length_le (by omega), List.append_nil]
  | succ d ih =>
    intro n k acc hn hk ha
    obtain ⟨k, rfl⟩ : ∃ q, k = q + 2 := ⟨k - 2, by omega⟩
    have h := ih (n + 1) k (acc ++ [x0[n]]) (by omega) (by omega) (by simp; omega)
    rw [nsucc] at h
    unfold codesearchref32_put.l0
    rw [if_pos (by omega), if_pos rfl]
    unfold codesearchref32_put.j1
    rw [if_neg (by simp), if_pos (by omega), if_pos (by omega), if_pos (by omega), wrap_in _ (by omega) (by omega), rdA x0 n (by omega)]
    rw [List.drop_eq_getElem_cons (show n < x0.length by omega)]
    exact h.trans (by simp)
theorem put_from (x0 : List S56) (hx : x0.length ≤ 1000000) (x : S56) : ∀ (d n k : Nat) (acc : List S56), n + d = x0.length → 2 * d < k → acc.length ≤ n → codesearchref32_put.l0 k x0 acc false (n : Int) x.f0 x.f1 x.f2 x.f3 = some (acc ++ insB ltS (x0.drop n) x) := by
  intro d
  induction d with
  | zero =>
    intro n k acc hn hk ha
    obtain ⟨k, rfl⟩ : ∃ q, k = q + 1 := ⟨k - 1, by omega⟩
    unfold codesearchref32_put.l0
    rw [if_neg (by omega), if_neg (by simp), if_pos (by omega), List.drop_of_length_le (by omega)]
    rfl
  | succ d ih =>
    intro n k acc hn hk ha
    obtain ⟨k, rfl⟩ : ∃ q, k = q + 2 := ⟨k - 2, by omega⟩
    have h := ih (n + 1) k (acc ++ [x0[n]]) (by omega) (by omega) (by simp; omega)
    have hd1 := put_done x0 hx x d (n + 1) k (acc ++ [x0[n]]) (by omega) (by omega) (by simp; omega)
    have hd2 := put_done x0 hx x d (n + 1) k (acc ++ [x] ++ [x0[n]]) (by omega) (by omega) (by simp; omega)
    rw [nsucc] at h hd1 hd2
    unfold codesearchref32_put.l0
    rw [if_pos (by omega), if_neg (by simp), if_pos (by omega), rdA x0 n (by omega), before_f]
    simp only [Option.bind_some]
    rw [List.drop_eq_getElem_cons (show n < x0.length by omega)]
    unfold codesearchref32_put.j1
    cases e : ltS x0[n] x with
    | true =>
      have hi : insB ltS (x0[n] :: x0.drop (n + 1)) x = x0[n] :: insB ltS (x0.drop (n + 1)) x := by simp [insB, e]
      rw [if_neg (by simp), if_pos (by omega), if_pos (by omega), if_pos (by omega), wrap_in _ (by omega) (by omega), rdA x0 n (by omega), hi]
      exact h.trans (by simp)
    | false =>
      rw [if_pos (by simp), if_pos (by omega), if_pos (by omega), rdA x0 n (by omega), before_f]
      simp only [Option.bind_some]
      cases e2 : ltS x x0[n] with
      | true =>
        have hi : insB ltS (x0[n] :: x0.drop (n + 1)) x = x :: x0[n] :: x0.drop (n + 1) := by simp [insB, e, e2]
        rw [if_pos rfl, if_pos (by omega), if_pos (by simp; omega), wrap_in _ (by omega) (by omega), hi]
        exact hd2.trans (by simp)
      | false =>
        have hi : insB ltS (x0[n] :: x0.drop (n + 1)) x = x0[n] :: x0.drop (n + 1) := by simp [insB, e, e2]
        rw [if_neg (by simp), if_pos (by omega), wrap_in _ (by omega) (by omega), hi]
        exact hd1.trans (by simp)
theorem put_f (x0 : List S56) (hx : x0.length ≤ 1000000) (x : S56) (k : Nat) (hk : 2 * x0.length < k) : codesearchref32_put.f k x0 x.f0 x.f1 x.f2 x.f3 = some (insB ltS x0 x) := by
  unfold codesearchref32_put.f
  have h := put_from x0 hx x x0.length 0 k [] (by omega) hk (by simp)
  simpa using h
/-! Add. -/
def addS (l : List S58) (x : S56) : List S58 := (addP ltS ltN keyS (l.map pair) x).map post
theorem post_id (l : List S58) : (l.map pair).map post = l := by rw [List.map_map]; exact List.map_id l
theorem bytes_eq {a b : ByteArray} : a.toList = b.toList ↔ a = b := ⟨ba_ext, fun h => by rw [h]⟩
theorem add_done (x0 : List S58) (hx : x0.length ≤ 1000000) (x : S56) (nm : ByteArray) : ∀ (d n k : Nat) (acc : List S58), n + d = x0.length → 2 * d < k → acc.length ≤ n + 1 → codesearchref32_Add.l0 k x0 nm acc true (n : Int) x.f0 x.f1 x.f2 x.f3 = some (acc ++ x0.drop n) := by
  intro d
  induction d with
  | zero =>
    intro n k acc hn hk ha
    obtain ⟨k, rfl⟩ : ∃ q, k = q + 1 := ⟨k - 1, by omega⟩
    unfold codesearchref32_Add.l0
    rw [if_neg (by omega), if_pos rfl, List.drop_of_length_le (by omega), List.append_nil]
  | succ d ih =>
    intro n k acc hn hk ha
    obtain ⟨k, rfl⟩ : ∃ q, k = q + 2 := ⟨k - 2, by omega⟩
    have h := ih (n + 1) k (acc ++ [x0[n]]) (by omega) (by omega) (by simp; omega)
    rw [nsucc] at h
    unfold codesearchref32_Add.l0
    rw [if_pos (by omega), if_pos rfl]
    unfold codesearchref32_Add.j1
    rw [if_neg (by simp), if_pos (by omega), if_pos (by omega), if_pos (by omega), wrap_in _ (by omega) (by omega), rdP x0 n (by omega)]
    rw [List.drop_eq_getElem_cons (show n < x0.length by omega)]
    exact h.trans (by simp)
theorem add_from (x0 : List S58) (hx : x0.length ≤ 1000000) (hp : ∀ p ∈ x0, p.f1.length ≤ 1000000) (x : S56) : ∀ (d n k : Nat) (acc : List S58), n + d = x0.length → 2 * d + 3000000 < k → acc.length ≤ n → codesearchref32_Add.l0 k x0 (keyS x) acc false (n : Int) x.f0 x.f1 x.f2 x.f3 = some (acc ++ addS (x0.drop n) x) := by
  intro d
  induction d with
  | zero =>
    intro n k acc hn hk ha
    obtain ⟨k, rfl⟩ : ∃ q, k = q + 1 := ⟨k - 1, by omega⟩
    unfold codesearchref32_Add.l0
    rw [if_neg (by omega), if_neg (by simp), if_pos (by omega), List.drop_of_length_le (by omega)]
    rfl
  | succ d ih =>
    intro n k acc hn hk ha
    obtain ⟨k, rfl⟩ : ∃ q, k = q + 2 := ⟨k - 2, by omega⟩
    have hpn := hp _ (List.getElem_mem (show n < x0.length by omega))
    have hb : Op.bytesLess x0[n].f0.toList (keyS x).toList = ltN x0[n].f0 (keyS x) := rfl
    rw [List.drop_eq_getElem_cons (show n < x0.length by omega)]
    unfold codesearchref32_Add.l0
    rw [if_pos (by omega), if_neg (by simp), if_pos (by omega), rdP x0 n (by omega), hb]
    unfold codesearchref32_Add.j1
    cases e : ltN x0[n].f0 (keyS x) with
    | true =>
      have h := ih (n + 1) k (acc ++ [x0[n]]) (by omega) (by omega) (by simp; omega)
      rw [nsucc] at h
      have hi : addS (x0[n] :: x0.drop (n + 1)) x = x0[n] :: addS (x0.drop (n + 1)) x := by
        unfold addS
        rw [List.map_cons, addP]
        rw [if_pos (show ltN (pair x0[n]).1 (keyS x) = true from e)]
        rfl
      rw [if_neg (by simp), if_pos (by omega), if_pos (by omega), if_pos (by omega), wrap_in _ (by omega) (by omega), rdP x0 n (by omega), hi]
      exact h.trans (by simp)
    | false =>
      have hpost : ∀ r : List S58, (r.map pair).map post = r := post_id
      rw [if_pos (by simp), if_pos (by omega), if_pos (by omega), rdP x0 n (by omega)]
      by_cases e2 : x0[n].f0 = keyS x
      · have hk2 : ltN (keyS x) x0[n].f0 = false := by rw [e2]; exact ordN.irr _
        have hi : addS (x0[n] :: x0.drop (n + 1)) x = ⟨keyS x, insB ltS x0[n].f1 x⟩ :: x0.drop (n + 1) := by
          unfold addS
          rw [List.map_cons, addP]
          rw [if_neg (show ¬ ltN (pair x0[n]).1 (keyS x) = true by show ¬ ltN x0[n].f0 (keyS x) = true; rw [e]; simp), if_neg (show ¬ ltN (keyS x) (pair x0[n]).1 = true by show ¬ ltN (keyS x) x0[n].f0 = true; rw [hk2]; simp), List.map_cons, hpost]
          show (⟨x0[n].f0, insB ltS x0[n].f1 x⟩ : S58) :: _ = _
          rw [e2]
        have hd := add_done x0 hx x (keyS x) d (n + 1) k (acc ++ [⟨keyS x, insB ltS x0[n].f1 x⟩]) (by omega) (by omega) (by simp; omega)
        rw [nsucc] at hd
        rw [if_pos (bytes_eq.2 e2), put_f _ hpn x k (by omega)]
        simp only [Option.bind_some]
        rw [if_pos (by omega), wrap_in _ (by omega) (by omega), hi]
        exact hd.trans (by simp)
      · have hk2 : ltN (keyS x) x0[n].f0 = true := by
          cases e3 : ltN (keyS x) x0[n].f0 with
          | true => rfl
          | false => exact absurd (ordN.tot _ _ e e3) e2
        have hi : addS (x0[n] :: x0.drop (n + 1)) x = ⟨keyS x, [x]⟩ :: x0[n] :: x0.drop (n + 1) := by
          unfold addS
          rw [List.map_cons, addP]
          rw [if_neg (show ¬ ltN (pair x0[n]).1 (keyS x) = true by show ¬ ltN x0[n].f0 (keyS x) = true; rw [e]; simp), if_pos (show ltN (keyS x) (pair x0[n]).1 = true from hk2), List.map_cons, List.map_cons, hpost]
          rfl
        have hd := add_done x0 hx x (keyS x) d (n + 1) k (acc ++ [⟨keyS x, [x]⟩] ++ [x0[n]]) (by omega) (by omega) (by simp; omega)
        rw [nsucc] at hd
        rw [if_neg (fun e4 => e2 (bytes_eq.1 e4)), if_pos (by omega)]
        simp only [Option.bind_some]
        rw [if_pos (by simp; omega), wrap_in _ (by omega) (by omega), hi]
        exact hd.trans (by simp)
theorem add_f (l : List S58) (hl : l.length ≤ 1000000) (hp : ∀ p ∈ l, p.f1.length ≤ 1000000) (x : S56) (hx : x.f3.size ≤ 1000000) (k : Nat) (hk : 6000000 < k) : codesearchref32_Add.f k l x.f0 x.f1 x.f2 x.f3 = some (addS l x) := by
  unfold codesearchref32_Add.f
  rw [rsimple_f x.f3 hx k (by omega)]
  simp only [Option.bind_some]
  have h := add_from l hl hp x l.length 0 k [] (by omega) (by omega) (by simp)
  simpa [keyS] using h
/-! Sizes. -/
theorem insB_len {α : Type} (lt : α → α → Bool) (x : α) : ∀ l : List α, (insB lt l x).length ≤ l.length + 1
  | [] => by simp [insB]
  | y :: r => by
    unfold insB
    have := insB_len lt x r
    split
    · simp; omega
    · split <;> simp
theorem addP_len {α κ : Type} (lt : α → α → Bool) (ltk : κ → κ → Bool) (key : α → κ) (x : α) (m : Nat) : ∀ l : List (κ × List α), (∀ p ∈ l, p.2.length ≤ m) → (addP lt ltk key l x).length ≤ l.length + 1 ∧ ∀ p ∈ addP lt ltk key l x, p.2.length ≤ m + 1
  | [], _ => by simp [addP]
  | p :: r, h => by
    have h1 := h p List.mem_cons_self
    have h2 := addP_len lt ltk key x m r (fun q hq => h q (List.mem_cons_of_mem _ hq))
    unfold addP
    split
    · refine ⟨by simp; omega, fun q hq => ?_⟩
      rcases List.mem_cons.1 hq with rfl | hq
      · omega
      · exact h2.2 q hq
    · split
      · refine ⟨by simp, fun q hq => ?_⟩
        rcases List.mem_cons.1 hq with rfl | hq
        · simp
        · have := h q hq; omega
      · refine ⟨by simp, fun q hq => ?_⟩
        rcases List.mem_cons.1 hq with rfl | hq
        · have := insB_len lt x p.2; simp; omega
        · have := h q (List.mem_cons_of_mem _ hq); omega
theorem idxS_snoc (l : List S56) (x : S56) : (idxS (l ++ [x])).map post = addS ((idxS l).map post) x := by
  unfold idxS idx addS
  rw [List.foldl_append]
  have : ∀ r : List (ByteArray × List S56), (r.map post).map pair = r := fun r => by rw [List.map_map]; exact List.map_id r
  rw [this]
  rfl
theorem idxS_len (l : List S56) : (idxS l).length ≤ l.length ∧ ∀ p ∈ idxS l, p.2.length ≤ l.length := by
  suffices ∀ (m : List S56) (a : List (ByteArray × List S56)) (n : Nat), a.length ≤ n → (∀ p ∈ a, p.2.length ≤ n) → (m.foldl (addP ltS ltN keyS) a).length ≤ n + m.length ∧ ∀ p ∈ m.foldl (addP ltS ltN keyS) a, p.2.length ≤ n + m.length by
    have := this l [] 0 (by simp) (by simp)
    simpa [idxS, idx] using this
  intro m
  induction m with
  | nil => intro a n h1 h2; exact ⟨by simpa using h1, by simpa using h2⟩
  | cons x r ih =>
    intro a n h1 h2
    have h3 := addP_len ltS ltN keyS x n a h2
    have h4 := ih (addP ltS ltN keyS a x) (n + 1) (by omega) h3.2
    rw [List.foldl_cons, List.length_cons]
    exact ⟨by omega, fun p hp => by have := h4.2 p hp; omega⟩
theorem posts_len (l : List S56) : ((idxS l).map post).length ≤ l.length ∧ ∀ p ∈ (idxS l).map post, p.f1.length ≤ l.length := by
  obtain ⟨h1, h2⟩ := idxS_len l
  refine ⟨by simpa using h1, fun p hp => ?_⟩
  obtain ⟨q, hq, rfl⟩ := List.mem_map.1 hp
  exact h2 q hq
end Go.Proofs.Ytlogobmimacpgaa.L32
set_option linter.unusedVariables false
set_option linter.unusedSimpArgs false
namespace Go.Proofs.Ytlogobmimacpgaa.L32
open Go.RowKit Go.Lib Go.Sort Go.Shelf Go.Proofs.YtlogobmimacpgaaW.PrintWords Go.Proofs.Ytlogobmimacpgaa.Idx
abbrev tD : Type := S30
abbrev tR : Type := S54
abbrev tA : Type := S56
abbrev tP : Type := S58
def occD (d : tD) : tA := ⟨d.f8, d.f9, 0, d.f2⟩
def getO (ds : List tD) (id : Int) : Option tD := ds.find? fun d => decide (d.f0 = id)
def occR (ds : List tD) (r : tR) : Option tA := (getO ds r.f4).map fun d => ⟨r.f0, r.f1, r.f3, d.f2⟩
def occG (ds : List tD) (rs : List tR) : List tA := ds.map occD ++ rs.filterMap (occR ds)
def okG (ds : List tD) (rs : List tR) : Prop := ds.length ≤ 100000 ∧ rs.length ≤ 100000 ∧ ∀ d ∈ ds, d.f2.size ≤ 1000000
def getT (o : Option tD) : Int × Int × ByteArray × Int × ByteArray × List ByteArray × List ByteArray × Bool × Int × Int × Int × Bool := match o with
  | some d => (d.f0, d.f1, d.f2, d.f3, d.f4, d.f5, d.f6, d.f7, d.f8, d.f9, d.f10, true)
  | none => (0, 0, ⟨#[]⟩, 0, ⟨#[]⟩, [], [], false, 0, 0, 0, false)
theorem rdD (l : List tD) (n : Nat) (h : n < l.length) : rd_T30 l (n : Int) = l[n] := by
  unfold rd_T30
  rw [Int.toNat_natCast, List.getD_eq_getElem?_getD, List.getElem?_eq_getElem h]
  rfl
theorem rdR (l : List tR) (n : Nat) (h : n < l.length) : rd_T54 l (n : Int) = l[n] := by
  unfold rd_T54
  rw [Int.toNat_natCast, List.getD_eq_getElem?_getD, List.getElem?_eq_getElem h]
  rfl
theorem rget_from (ds : List tD) (hl : ds.length ≤ 1000000) (id : Int) : ∀ (d n k : Nat), n + d = ds.length → d < k → codesearchref14_Get.l0 k ds id (n : Int) = some (getT (getO (ds.drop n) id)) := by
  intro d
  induction d with
  | zero =>
    intro n k hn hk
    obtain ⟨k, rfl⟩ : ∃ q, k = q + 1 := ⟨k - 1, by omega⟩
    unfold codesearchref14_Get.l0
    rw [if_neg (by omega), List.drop_of_length_le (by omega)]
    rfl
  | succ d ih =>
    intro n k hn hk
    obtain ⟨k, rfl⟩ : ∃ q, k = q + 1 := ⟨k - 1, by omega⟩
    have h := ih (n + 1) k (by omega) (by omega)
    rw [nsucc] at h
    unfold codesearchref14_Get.l0
    rw [if_pos (by omega), if_pos (by omega), rdD ds n (by omega), List.drop_eq_getElem_cons (show n < ds.length by omega)]
    unfold getO at h ⊢
    rw [List.find?_cons]
    by_cases e : ds[n].f0 = id
    · rw [if_pos e, decide_eq_true e]
      rfl
    · rw [if_neg e, decide_eq_false e, wrap_in _ (by omega) (by omega)]
      exact h
theorem rget_f (ds : List tD) (hl : ds.length ≤ 1000000) (id : Int) (k : Nat) (hk : ds.length < k) : codesearchref14_Get.f k ds id = some (getT (getO ds id)) := rget_from ds hl id ds.length 0 k (by omega) hk
/-- Add's call, on an index of the call's own. -/
theorem add_w (base : Nat) (w : World) (u : Value) (l : List tP) (x : tA) (hN : Kd.N k58 58 w base (fun k_ => base ≤ k_) u l) (hb : base ≤ w.heap.size) (hl : l.length ≤ 1000000) (hp : ∀ p ∈ l, p.f1.length ≤ 1000000) (hx : x.f3.size ≤ 1000000) :
    Calls Try.prog 32 #[u, .agg #[.int .i64 x.f0, .int .i64 x.f1, .int .i64 x.f2, .string x.f3]] w fun e w' => ∃ v, e = .returned v ∧ Kd.N k58 58 w' base (fun k_ => base ≤ k_) v (addS l x) ∧ Below w.heap.size w w' := by
  obtain ⟨A, c, rfl⟩ := Kd.N_slice hN
  refine (codesearchref32_Add.calls 6000001 (fun k_ => base ≤ k_) A c l x.f0 x.f1 x.f2 x.f3 (addS l x) w (Kd.N_V hN) (add_f l hl hp x hx 6000001 (by omega))).mono fun e w' hh => ?_
  obtain ⟨v, h1, h2, h3⟩ := hh
  exact ⟨v, h1, Kd.N_mono (Kd.N_lower h2 hb) (fun k hk => hk.elim id (fun h => by omega)), h3⟩
theorem occD_take (ds : List tD) (n : Nat) (h : n < ds.length) : (ds.take (n + 1)).map occD = (ds.take n).map occD ++ [occD ds[n]] := by
  rw [take_get ds n ds[n] (List.getElem?_eq_getElem h), List.map_append]
  rfl
theorem occR_take (ds : List tD) (rs : List tR) (n : Nat) (h : n < rs.length) : (rs.take (n + 1)).filterMap (occR ds) = (rs.take n).filterMap (occR ds) ++ (occR ds rs[n]).toList := by
  rw [take_get rs n rs[n] (List.getElem?_eq_getElem h), List.filterMap_append]
  cases e : occR ds rs[n] <;> simp [List.filterMap_cons, e]
end Go.Proofs.Ytlogobmimacpgaa.L32
set_option linter.unusedVariables false
set_option linter.unusedSimpArgs false
namespace Go.Proofs.Ytlogobmimacpgaa.L32
open Go.RowKit Go.Lib Go.Sort Go.Shelf Go.Proofs.YtlogobmimacpgaaW.PrintWords Go.Proofs.YtlogobmimacpgaaW.PrintLast Go.Proofs.YtlogobmimacpgaaW.PrintMore Go.Proofs.Ytlogobmimacpgaa.Idx
def NP (w : World) (B : Nat) (v : Value) (l : List tP) : Prop := Kd.N k58 58 w B (fun k_ => B ≤ k_) v l
theorem NP.below {w w' : World} {B : Nat} {v : Value} {l : List tP} (h : NP w B v l) (hb : Below w.heap.size w w') : NP w' B v l := Kd.N_below h hb
theorem NP.lower {w : World} {B B' : Nat} {v : Value} {l : List tP} (h : NP w B v l) (hb : B' ≤ B) : NP w B' v l := Kd.N_mono (Kd.N_lower h hb) (fun k hk => by omega)
theorem NP.nil (w : World) (g : Nat) (hg : g = w.heap.size) : NP (w.alloc (.cells #[] 58)) w.heap.size (.slice (some ⟨g, 0, none⟩) 0 0) [] := by
  subst hg
  exact ⟨fun k hk => by have : w.heap.size = k := Option.some.inj hk; omega, [], rfl, ⟨fun k hk => hk.symm, [], ⟨rfl, .inr ⟨w.heap.size, 0, #[], rfl, Nat.le_refl _, heap_alloc_new _ _, Nat.le_refl _, Nat.zero_le _, by simp, by simp⟩⟩, Reps.none _ _⟩, fun j x c hx => by simp at hx⟩
theorem NP.add {B : Nat} {w : World} {u : Value} {l : List tA} {x : tA} (h : NP w B u ((idxS l).map post)) (hb : B ≤ w.heap.size) (hl : l.length ≤ 1000000) (hx : x.f3.size ≤ 1000000) :
    Calls Try.prog 32 #[u, .agg #[.int .i64 x.f0, .int .i64 x.f1, .int .i64 x.f2, .string x.f3]] w fun e w' => ∃ v, e = .returned v ∧ NP w' B v ((idxS (l ++ [x])).map post) ∧ Below w.heap.size w w' := by
  rw [idxS_snoc]
  obtain ⟨h1, h2⟩ := posts_len l
  exact add_w B w u _ x h hb (by omega) (fun p hp => by have := h2 p hp; omega) hx
theorem box4_at {w : World} {a b c d : Value} {t : TypeId} {w' : World} (h : Below (w.alloc (.cells #[a, b, c, d] t)).heap.size (w.alloc (.cells #[a, b, c, d] t)) w') : w'.cell? ⟨w.heap.size, 0, none⟩ = some a ∧ w'.cell? ⟨w.heap.size, 1, none⟩ = some b ∧ w'.cell? ⟨w.heap.size, 2, none⟩ = some c ∧ w'.cell? ⟨w.heap.size, 3, none⟩ = some d := by
  have hl : w.heap.size < (w.alloc (.cells #[a, b, c, d] t)).heap.size := by simp
  have h1 := heap_alloc_new w (.cells #[a, b, c, d] t)
  refine ⟨?_, ?_, ?_, ?_⟩
  all_goals
    rw [h.cell (by exact hl), blk_cell h1]
    first | done | rfl
set_option maxHeartbeats 8000000 in
theorem rbuild_w (A0 : Option Addr) (c0 : Nat) (ds : List tD) (A1 : Option Addr) (c1 : Nat) (rs : List tR) (v2 v3 : Value) (w : World) (hC0 : Kd.C k30 w A0 ds.length ds) (hc0 : ds.length ≤ c0) (hC1 : Kd.C k54 w A1 rs.length rs) (hok : okG ds rs) (h2 : ∃ A n c, v2 = .slice A n c) (h3 : ∃ A n c, v3 = .slice A n c) :
    Calls Try.prog 10 #[.agg #[.slice A0 ds.length c0, .slice A1 rs.length c1, v2, v3]] w fun e w' => ∃ v, e = .returned v ∧ NP w' w.heap.size v ((idxS (occG ds rs)).map post) ∧ Below w.heap.size w w' := by
  obtain ⟨hl0, hl1, hnm⟩ := hok
  obtain ⟨A2, n2, c2, rfl⟩ := h2
  obtain ⟨A3, n3, c3, rfl⟩ := h3
  obtain ⟨w1, hw1⟩ : ∃ w1, w.alloc (.cells #[.slice A0 ds.length c0, .slice A1 rs.length c1, .slice A2 n2 c2, .slice A3 n3 c3] 26) = w1 := ⟨_, rfl⟩
  have hs1 : w1.heap.size = w.heap.size + 1 := by rw [← hw1]; simp
  have hb4 : ∀ W, Below w1.heap.size w1 W → W.cell? ⟨w.heap.size, 0, none⟩ = some (.slice A0 ds.length c0) ∧ W.cell? ⟨w.heap.size, 1, none⟩ = some (.slice A1 rs.length c1) ∧ W.cell? ⟨w.heap.size, 2, none⟩ = some (.slice A2 n2 c2) ∧ W.cell? ⟨w.heap.size, 3, none⟩ = some (.slice A3 n3 c3) := by rw [← hw1]; exact fun W h => box4_at h
  have hBw : Below w.heap.size w w1 := by rw [← hw1]; exact below_alloc (Below.refl _ _) _
  go_enter Try.func10, Try.ntmps10
  go_wp2
  go_loopw [3, 4] (fun u i wr => ∃ n, i = .int .i64 ((n : Nat) : Int) ∧ n ≤ ds.length ∧ NP wr w1.heap.size u ((idxS ((ds.take n).map occD)).map post) ∧ Below w1.heap.size w1 wr) (fun _ i _ => ds.length - (intOf i).toNat)
  case atStart => exact ⟨0, rfl, by omega, NP.nil w1 _ (by omega), below_alloc (Below.refl _ _) _⟩
  case round =>
    obtain ⟨n, rfl, hn, hN, hB⟩ := hrel
    obtain ⟨b0, b1, b2, b3⟩ := hb4 _ hB
    by_cases hlt : n < ds.length
    · have hlti : (n : Int) < ds.length := by omega
      obtain ⟨ad, A5, c5, A6, c6, rfl, z0, z1, z2, z3, z4, z5, z6, z7, z8, z9, z10, _⟩ := at_T30 (Kd.C_below hC0 (below_step hBw hB)) (n : Int) (by omega) hlti
      rw [rdD ds n hlt] at z0 z1 z2 z3 z4 z5 z6 z7 z8 z9 z10
      simp only [Int.toNat_natCast] at z0 z1 z2 z3 z4 z5 z6 z7 z8 z9 z10
      obtain ⟨x, hx⟩ : ∃ x, ds[n] = x := ⟨_, rfl⟩
      rw [hx] at z0 z1 z2 z3 z4 z5 z6 z7 z8 z9 z10
      have HT := Hid.mk' (occD_take ds n hlt)
      rw [hx] at HT
      have hxs : x.f2.size ≤ 1000000 := hnm x (by rw [← hx]; exact List.getElem_mem hlt)
      have hadd := fun W (hb : Below wr.heap.size wr W) => NP.add (x := occD x) (hN.below hb) (by have := hB.size; have := hb.size; omega) (by simp; omega) hxs
      clear hx
      have hbs := hB.size
      go_wp2_with (go_at_call 32; refine (hadd _ (below_alloc (Below.refl _ _) _)).mono ?_; rintro e w2 ⟨v, rfl, hN2, hB2⟩)
      go_roundw
      case rel => exact ⟨n + 1, by go_num, by omega, by rw [HT.out]; exact hN2, below_step (below_step hB (below_alloc (Below.refl _ _) _)) hB2⟩
      case measure => simp [intOf]; omega
    · obtain rfl : n = ds.length := by omega
      rw [List.take_of_length_le (Nat.le_refl _)] at hN
      obtain ⟨D, hD⟩ : ∃ D, ds.map occD = D := ⟨_, rfl⟩
      have hDl : D.length = ds.length := by rw [← hD]; simp
      rw [hD] at hN
      obtain ⟨wA, hwA⟩ : ∃ x, x = wr := ⟨wr, rfl⟩
      subst hwA
      have hfin : occG ds rs = D ++ rs.filterMap (occR ds) := by rw [← hD]; rfl
      have HF := Hid.mk' hfin
      clear hfin
      have hbA := hB.size
      go_wp2
      go_loopw [3, 6] (fun u i wr => ∃ n, i = .int .i64 ((n : Nat) : Int) ∧ n ≤ rs.length ∧ NP wr w1.heap.size u ((idxS (D ++ (rs.take n).filterMap (occR ds))).map post) ∧ Below w1.heap.size w1 wr) (fun _ i _ => rs.length - (intOf i).toNat)
      case atStart => exact ⟨0, rfl, by omega, by simpa using hN, hB⟩
      case round =>
        clear b0 b1 b2 b3
        obtain ⟨n, rfl, hn, hN, hB⟩ := hrel
        obtain ⟨b0, b1, b2, b3⟩ := hb4 _ hB
        by_cases hlt : n < rs.length
        · have hlti : (n : Int) < rs.length := by omega
          obtain ⟨ad, rfl, z0, z1, z2, z3, z4, z5⟩ := at_T54 (Kd.C_below hC1 (below_step hBw hB)) (n : Int) (by omega) hlti
          rw [rdR rs n hlt] at z0 z1 z2 z3 z4 z5
          simp only [Int.toNat_natCast] at z0 z1 z2 z3 z4 z5
          obtain ⟨x, hx⟩ : ∃ x, rs[n] = x := ⟨_, rfl⟩
          rw [hx] at z0 z1 z2 z3 z4 z5
          have ht := occR_take ds rs n hlt
          rw [hx] at ht
          clear hx
          have hbs := hB.size
          obtain ⟨w2, hw2⟩ : ∃ w2, wr.alloc (.cells #[.int .i64 x.f0, .int .i64 x.f1, .int .i64 x.f2, .int .i64 x.f3, .int .i64 x.f4, .int .i64 x.f5] 54) = w2 := ⟨_, rfl⟩
          have hs2 : w2.heap.size = wr.heap.size + 1 := by rw [← hw2]; simp
          have hB2 : Below wr.heap.size wr w2 := by rw [← hw2]; exact below_alloc (Below.refl _ _) _
          have y4 : w2.cell? ⟨wr.heap.size, 4, none⟩ = some (.int .i64 x.f4) := by rw [← hw2, blk_cell (heap_alloc_new _ _)]; rfl
          obtain ⟨c0', c1', c2', c3'⟩ := hb4 _ (below_step hB hB2)
          have hx3 : ∀ W, Below w2.heap.size w2 W → W.cell? ⟨wr.heap.size, 0, none⟩ = some (.int .i64 x.f0) ∧ W.cell? ⟨wr.heap.size, 1, none⟩ = some (.int .i64 x.f1) ∧ W.cell? ⟨wr.heap.size, 3, none⟩ = some (.int .i64 x.f3) := by
            intro W hW
            have hlt3 : wr.heap.size < w2.heap.size := by omega
            refine ⟨?_, ?_, ?_⟩
            all_goals
              rw [hW.cell (by exact hlt3), ← hw2, blk_cell (heap_alloc_new _ _)]
              first | done | rfl
          have hV : Kd.V k30 30 w2 w2.heap.size (fun k_ => k_ < w2.heap.size) (.slice A0 ds.length c0) ds := Kd.V_mk hc0 (Kd.C_F k30_heap (Kd.C_below hC0 (below_step (below_step hBw hB) hB2)))
          have hget := rget_f ds (by omega) x.f4 (ds.length + 1) (by omega)
          cases hd : getO ds x.f4 with
          | none =>
            rw [hd] at hget
            have hcall := codesearchref14_Get.calls _ _ _ _ _ _ _ _ _ _ _ _ _ _ _ _ _ _ w2 hV hget
            have hto : occR ds x = none := by unfold occR; rw [hd]; rfl
            rw [hto] at ht
            have HT := Hid.mk' ht
            clear hget hV ht hd hto
            go_wp2_with (go_at_call 33; refine hcall.mono ?_; rintro e w3 ⟨v5, v6, rfl, hv5, hv6, hB3⟩; obtain ⟨A5, c5, rfl⟩ := Kd.V_slice hv5; obtain ⟨A6, c6, rfl⟩ := Kd.V_slice hv6; clear hv5 hv6)
            go_roundw
            case rel => exact ⟨n + 1, by go_num, by omega, by rw [HT.out]; simpa using hN.below (below_step hB2 (below_step hB3 (below_alloc (Below.refl _ _) _))), below_step hB (below_step hB2 (below_step hB3 (below_alloc (Below.refl _ _) _)))⟩
            case measure => simp [intOf]; omega
          | some d =>
            rw [hd] at hget
            have hcall := codesearchref14_Get.calls _ _ _ _ _ _ _ _ _ _ _ _ _ _ _ _ _ _ w2 hV hget
            have hto : occR ds x = some ⟨x.f0, x.f1, x.f3, d.f2⟩ := by unfold occR; rw [hd]; rfl
            have hds : d.f2.size ≤ 1000000 := hnm d (List.mem_of_find?_eq_some hd)
            rw [hto] at ht
            have HT := Hid.mk' ht
            have hadd := fun W (hb : Below wr.heap.size wr W) => NP.add (x := ⟨x.f0, x.f1, x.f3, d.f2⟩) (hN.below hb) (by have := hb.size; omega) (by have := List.length_filterMap_le (occR ds) (rs.take n); rw [List.length_take] at this; simp only [List.length_append]; omega) hds
            clear hget hV ht hd hto
            go_wp2_with (first
              | (go_at_call 33; refine hcall.mono ?_; rintro e w3 ⟨v5, v6, rfl, hv5, hv6, hB3⟩; obtain ⟨A5, c5, rfl⟩ := Kd.V_slice hv5; obtain ⟨A6, c6, rfl⟩ := Kd.V_slice hv6; clear hv5 hv6; have hq := fun o => hx3 _ (below_step hB3 (below_alloc (Below.refl _ _) o)); have q0 := fun o => (hq o).1; have q1 := fun o => (hq o).2.1; have q2 := fun o => (hq o).2.2; clear hq)
              | (go_at_call 32; refine (hadd _ (below_step hB2 (below_step hB3 (below_alloc (Below.refl _ _) _)))).mono ?_; rintro e w4 ⟨v, rfl, hN4, hB4⟩))
            go_roundw
            case rel => exact ⟨n + 1, by go_num, by omega, by rw [HT.out, ← List.append_assoc]; exact hN4, below_step hB (below_step hB2 (below_step hB3 (below_step (below_alloc (Below.refl _ _) _) hB4)))⟩
            case measure => simp [intOf]; omega
        · obtain rfl : n = rs.length := by omega
          rw [List.take_of_length_le (Nat.le_refl _), ← HF.out] at hN
          go_wp2
          go_ret
          exact ⟨_, rfl, hN.lower (by omega), below_step hBw hB⟩
def okB (ds : List tD) (rs : List tR) : Bool := decide (ds.length ≤ 100000) && (decide (rs.length ≤ 100000) && ds.all fun d => decide (d.f2.size ≤ 1000000))
theorem okB_iff (ds : List tD) (rs : List tR) : okB ds rs = true ↔ okG ds rs := by
  unfold okB okG
  simp [List.all_eq_true]
def codesearchref32_Build.f (ds : List tD) (rs : List tR) (l2 l3 : List S145) : Option (List tP) := if okB ds rs = true then some ((idxS (occG ds rs)).map post) else none
theorem codesearchref32_Build.calls (A0 : Option Addr) (c0 : Nat) (ds : List tD) (A1 : Option Addr) (c1 : Nat) (rs : List tR) (A2 : Option Addr) (c2 : Nat) (l2 : List S145) (A3 : Option Addr) (c3 : Nat) (l3 : List S145) (r : List tP) (w : World) (hC0 : Kd.C k30 w A0 ds.length ds) (hc0 : ds.length ≤ c0) (hC1 : Kd.C k54 w A1 rs.length rs) (hc1 : rs.length ≤ c1) (hC2 : Kd.C k145 w A2 l2.length l2) (hc2 : l2.length ≤ c2) (hC3 : Kd.C k145 w A3 l3.length l3) (hc3 : l3.length ≤ c3) (h : codesearchref32_Build.f ds rs l2 l3 = some r) :
    Calls Try.prog 10 #[.agg #[.slice A0 ds.length c0, .slice A1 rs.length c1, .slice A2 l2.length c2, .slice A3 l3.length c3]] w fun e w' => ∃ v0_ : Value, e = .returned (v0_) ∧ Kd.N k58 58 w' w.heap.size (fun k_ => w.heap.size ≤ k_) v0_ r ∧ Below w.heap.size w w' := by
  unfold codesearchref32_Build.f at h
  split at h
  next hok =>
    injection h with h
    subst h
    exact rbuild_w A0 c0 ds A1 c1 rs _ _ w hC0 hc0 hC1 ((okB_iff ds rs).1 hok) ⟨_, _, _, rfl⟩ ⟨_, _, _, rfl⟩
  next => cases h
end Go.Proofs.Ytlogobmimacpgaa.L32
