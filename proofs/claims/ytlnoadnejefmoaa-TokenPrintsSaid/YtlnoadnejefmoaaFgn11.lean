/- What the printed texts of chapter 11 take from the walks by hand: the tokenizer's functions as plain functions, with their contracts. Strings of at most 1000000000 bytes, lists of at most 1000000 tokens. -/
import Derived.Test.YtlnoadnejefmoaaL11x0
import Derived.Test.YtlnoadnejefmoaaTkLaw
import Derived.Test.YtlnoadnejefmoaaTkRef
set_option linter.unusedVariables false
set_option linter.unusedSimpArgs false
namespace Go.Proofs.Ytlnoadnejefmoaa
open Go.RowKit Go.Proofs.YtlnoadnejefmoaaW.PrintWords

theorem C_map {α β : Type} {d' : Kd α} {d : Kd β} (f : α → β) (hs : d'.sz = d.sz) (hK : ∀ w x cs, d'.K w x cs → d.K w (f x) cs) {w : World} {A : Option Addr} {n : Nat} {xs : List α} (h : d'.C w A n xs) : d.C w A n (xs.map f) := by
  refine ⟨by rw [List.length_map]; exact h.1, h.2.1, fun hn => ?_⟩
  obtain ⟨ad, e, hc⟩ := h.2.2 hn
  refine ⟨ad, e, fun j p hj => ?_⟩
  rw [List.getElem?_map] at hj
  obtain ⟨q, hq, rfl⟩ := Option.map_eq_some_iff.1 hj
  obtain ⟨c, h1, h2, h3⟩ := hc j q hq
  exact ⟨c, by rw [← hs]; exact h1, hK _ _ _ h2, by rw [← hs]; exact h3⟩
theorem R_map {α β : Type} {d' : Kd α} {d : Kd β} (f : α → β) (hs : d'.sz = d.sz) (hM : ∀ w b ok x cs, d'.M w b ok x cs → d.M w b ok (f x) cs) {e : Nat} {w : World} {b : Nat} {ok : Nat → Prop} {v : Value} {xs : List α} (h : d'.R e w b ok v xs) : d.R e w b ok v (xs.map f) := by
  obtain ⟨h0, inner, ho, hr⟩ := h
  refine ⟨h0, inner, ?_, ?_⟩
  · rw [List.length_map, ← hs]; exact ho
  · refine ⟨by rw [List.length_map, ← hs]; exact hr.1, fun j p hj => ?_⟩
    rw [List.getElem?_map] at hj
    obtain ⟨q, hq, rfl⟩ := Option.map_eq_some_iff.1 hj
    rw [← hs]
    exact hM _ _ _ _ _ (hr.2 j q hq)
end Go.Proofs.Ytlnoadnejefmoaa
namespace Go.Proofs.Ytlnoadnejefmoaa.L11
open Go.RowKit Go.Proofs.YtlnoadnejefmoaaW.PrintWords

def toS (t : Tok) : S33 := ⟨t.kind, t.text, t.at_, t.end_⟩
def toT (s : S33) : Tok := ⟨s.f0, s.f1, s.f2, s.f3⟩
theorem toT_toS (xs : List Tok) : (xs.map toS).map toT = xs := by rw [List.map_map, show toT ∘ toS = id from rfl, List.map_id]
theorem C_T {w : World} {A : Option Addr} {n : Nat} {xs : List S33} (h : k33.C w A n xs) : kTok.C w A n (xs.map toT) := C_map (d' := k33) (d := kTok) toT rfl (fun _ _ _ h => h) h
theorem R_S {e : Nat} {w : World} {b : Nat} {ok : Nat → Prop} {v : Value} {xs : List Tok} (h : kTok.R e w b ok v xs) : k33.R e w b ok v (xs.map toS) := R_map (d' := kTok) (d := k33) toS rfl (fun _ _ _ _ _ h => h) h
theorem C_S {w : World} {A : Option Addr} {xs : List S33} (h : k33.C w A xs.length xs) : kTok.C w A (xs.map toT).length (xs.map toT) := by rw [List.length_map]; exact C_T h

def scanF (pat : Bool) (s : ByteArray) : Option (List S33 × Int × Int) := if s.size ≤ 1000000000 then some ((scanR pat s.data.toList).toks.map toS, (scanR pat s.data.toList).off, (scanR pat s.data.toList).err) else none
theorem scanF_some {pat : Bool} {s : ByteArray} {r1 : List S33} {r2 r3 : Int} (h : scanF pat s = some (r1, r2, r3)) : s.size ≤ 1000000000 ∧ r1 = (scanR pat s.data.toList).toks.map toS ∧ r2 = (scanR pat s.data.toList).off ∧ r3 = (scanR pat s.data.toList).err := by
  unfold scanF at h
  split at h
  · rename_i hs
    simp only [Option.some.injEq, Prod.mk.injEq] at h
    exact ⟨hs, h.1.symm, h.2.1.symm, h.2.2.symm⟩
  · cases h
def token_Scan.f (s : ByteArray) : Option (List S33 × Int × Int) := scanF false s
def token_ScanPattern.f (s : ByteArray) : Option (List S33 × Int × Int) := scanF true s
def codesearchref11_Scan.f (s : ByteArray) : Option (List S33 × Int × Int) := scanF false s
def codesearchref11_ScanPattern.f (s : ByteArray) : Option (List S33 × Int × Int) := scanF true s
theorem token_Scan.calls (a0 : ByteArray) (r1 : List S33) (r2 r3 : Int) (w : World) (h : token_Scan.f a0 = some (r1, r2, r3)) :
    Calls Try.prog 14 #[.string a0] w fun e w' => ∃ v1_ : Value, e = .returned (.tuple #[v1_, .int .i64 r2, .int .i64 r3]) ∧ Kd.R k33 33 w' w.heap.size (fun _ => True) v1_ r1 ∧ Below w.heap.size w w' := by
  obtain ⟨hs, rfl, rfl, rfl⟩ := scanF_some h
  refine (tok_Scan a0 w hs _ rfl).mono ?_
  rintro e w' ⟨v, rfl, hR, hb⟩
  exact ⟨v, rfl, R_S hR, hb⟩
theorem token_ScanPattern.calls (a0 : ByteArray) (r1 : List S33) (r2 r3 : Int) (w : World) (h : token_ScanPattern.f a0 = some (r1, r2, r3)) :
    Calls Try.prog 17 #[.string a0] w fun e w' => ∃ v1_ : Value, e = .returned (.tuple #[v1_, .int .i64 r2, .int .i64 r3]) ∧ Kd.R k33 33 w' w.heap.size (fun _ => True) v1_ r1 ∧ Below w.heap.size w w' := by
  obtain ⟨hs, rfl, rfl, rfl⟩ := scanF_some h
  refine (tok_ScanPattern a0 w hs _ rfl).mono ?_
  rintro e w' ⟨v, rfl, hR, hb⟩
  exact ⟨v, rfl, R_S hR, hb⟩
theorem codesearchref11_Scan.calls (a0 : ByteArray) (r1 : List S33) (r2 r3 : Int) (w : World) (h : codesearchref11_Scan.f a0 = some (r1, r2, r3)) :
    Calls Try.prog 15 #[.string a0] w fun e w' => ∃ v1_ : Value, e = .returned (.tuple #[v1_, .int .i64 r2, .int .i64 r3]) ∧ Kd.R k33 33 w' w.heap.size (fun _ => True) v1_ r1 ∧ Below w.heap.size w w' := by
  obtain ⟨hs, rfl, rfl, rfl⟩ := scanF_some h
  refine (ref_Scan a0 w hs _ rfl).mono ?_
  rintro e w' ⟨v, rfl, hR, hb⟩
  exact ⟨v, rfl, R_S hR, hb⟩
theorem codesearchref11_ScanPattern.calls (a0 : ByteArray) (r1 : List S33) (r2 r3 : Int) (w : World) (h : codesearchref11_ScanPattern.f a0 = some (r1, r2, r3)) :
    Calls Try.prog 18 #[.string a0] w fun e w' => ∃ v1_ : Value, e = .returned (.tuple #[v1_, .int .i64 r2, .int .i64 r3]) ∧ Kd.R k33 33 w' w.heap.size (fun _ => True) v1_ r1 ∧ Below w.heap.size w w' := by
  obtain ⟨hs, rfl, rfl, rfl⟩ := scanF_some h
  refine (ref_ScanPattern a0 w hs _ rfl).mono ?_
  rintro e w' ⟨v, rfl, hR, hb⟩
  exact ⟨v, rfl, R_S hR, hb⟩

def codesearchlaw11_alive.f : Option Bool := some true
theorem codesearchlaw11_alive.calls (r : Bool) (w : World) (h : codesearchlaw11_alive.f = some r) : Calls Try.prog 13 #[] w fun e w' => e = .returned (.bool r) ∧ Below w.heap.size w w' := by
  obtain rfl : true = r := Option.some.inj h
  exact law_alive w
def token_Keyword.f (s : ByteArray) : Option Bool := some (kwB s)
theorem token_Keyword.calls (a0 : ByteArray) (r : Bool) (w : World) (h : token_Keyword.f a0 = some r) : Calls Try.prog 25 #[.string a0] w fun e w' => e = .returned (.bool r) ∧ Below w.heap.size w w' := by
  obtain rfl := Option.some.inj h
  exact tok_keyword a0 w
def codesearchref11_Keyword.f (s : ByteArray) : Option Bool := some (kwB s)
theorem codesearchref11_Keyword.calls (a0 : ByteArray) (r : Bool) (w : World) (h : codesearchref11_Keyword.f a0 = some r) : Calls Try.prog 26 #[.string a0] w fun e w' => e = .returned (.bool r) ∧ Below w.heap.size w w' := by
  obtain rfl := Option.some.inj h
  exact ref_keyword a0 w
def codesearchref11_Mark.f (s : ByteArray) : Option Bool := some (markB s)
theorem codesearchref11_Mark.calls (a0 : ByteArray) (r : Bool) (w : World) (h : codesearchref11_Mark.f a0 = some r) : Calls Try.prog 74 #[.string a0] w fun e w' => e = .returned (.bool r) ∧ Below w.heap.size w w' := by
  obtain rfl := Option.some.inj h
  exact ref_mark a0 w

def printF (xs : List Tok) : ByteArray × Int := (tx ((printO xs).getD []), if (printO xs).isSome then 0 else 1)
def shortT (l : List S33) : Prop := l.length ≤ 1000000 ∧ ∀ x ∈ l, x.f1.size ≤ 1000000000
instance (l : List S33) : Decidable (shortT l) := inferInstanceAs (Decidable (_ ∧ _))
def token_Print.f (l : List S33) : Option (ByteArray × Int) := if shortT l then some (printF (l.map toT)) else none
theorem token_Print.calls (A0 : Option Addr) (c0 : Nat) (l0 : List S33) (r1 : ByteArray) (r2 : Int) (w : World) (hr0 : Kd.C k33 w A0 l0.length l0) (hc0 : l0.length ≤ c0) (h : token_Print.f l0 = some (r1, r2)) :
    Calls Try.prog 20 #[.slice A0 l0.length c0] w fun e w' => e = .returned (.tuple #[.string r1, .int .i64 r2]) ∧ Below w.heap.size w w' := by
  unfold token_Print.f at h
  split at h
  · rename_i hs
    unfold printF at h
    simp only [Option.some.injEq, Prod.mk.injEq] at h
    obtain ⟨rfl, rfl⟩ := h
    have hl : (l0.map toT).length = l0.length := List.length_map ..
    have := tok_Print w A0 c0 (l0.map toT) (C_S hr0) (by rw [hl]; exact hs.1) (fun x hx => by
      obtain ⟨y, hy, rfl⟩ := List.mem_map.1 hx
      exact hs.2 y hy) _ rfl
    rw [hl] at this
    refine this.mono ?_
    rintro e w' ⟨rfl, hb⟩
    exact ⟨rfl, hb⟩
  · cases h
def codesearchref11_Same.f (l l1 : List S33) : Option Bool := some (sameL (l.map toT) (l1.map toT))
theorem codesearchref11_Same.calls (A0 : Option Addr) (c0 : Nat) (l0 : List S33) (A1 : Option Addr) (c1 : Nat) (l1 : List S33) (r : Bool) (w : World) (hr0 : Kd.C k33 w A0 l0.length l0) (hc0 : l0.length ≤ c0) (hr1 : Kd.C k33 w A1 l1.length l1) (hc1 : l1.length ≤ c1) (h : codesearchref11_Same.f l0 l1 = some r) :
    Calls Try.prog 21 #[.slice A0 l0.length c0, .slice A1 l1.length c1] w fun e w' => e = .returned (.bool r) ∧ Below w.heap.size w w' := by
  obtain rfl := Option.some.inj h
  have := ref_Same w A0 A1 c0 c1 (l0.map toT) (l1.map toT) (C_S hr0) (C_S hr1)
  rw [List.length_map, List.length_map] at this
  exact this
def token_Same.f (l l1 : List S33) : Option Bool := some (sameL (l.map toT) (l1.map toT))
theorem token_Same.calls (A0 : Option Addr) (c0 : Nat) (l0 : List S33) (A1 : Option Addr) (c1 : Nat) (l1 : List S33) (r : Bool) (w : World) (hr0 : Kd.C k33 w A0 l0.length l0) (hc0 : l0.length ≤ c0) (hr1 : Kd.C k33 w A1 l1.length l1) (hc1 : l1.length ≤ c1) (h : token_Same.f l0 l1 = some r) :
    Calls Try.prog 24 #[.slice A0 l0.length c0, .slice A1 l1.length c1] w fun e w' => e = .returned (.bool r) ∧ Below w.heap.size w w' := by
  obtain rfl := Option.some.inj h
  have := tok_Same w A0 A1 c0 c1 (l0.map toT) (l1.map toT) (C_S hr0) (C_S hr1)
  rw [List.length_map, List.length_map] at this
  exact this
end Go.Proofs.Ytlnoadnejefmoaa.L11
