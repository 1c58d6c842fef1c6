import Derived.Test.YtkpkgpopmodagaaWrite
import Derived.Test.YtkpkgpopmodagaaRead
namespace Go.Proofs.Ytkpkgpopmodagaa.B
open Go.RowKit Go.Proofs.YtkpkgpopmodagaaW.PrintWords Go.Proofs.YtkpkgpopmodagaaW.PrintLast Go.Proofs.YtkpkgpopmodagaaW.PrintMore Go.RF
set_option linter.unusedVariables false
set_option linter.unusedSimpArgs false
def G.Own (l0 : List (S34)) : Option ((List (S34))) := if l0.length ≤ 1000000 ∧ ∀ x ∈ l0, x.f2.length ≤ 1000000000 then some l0 else none
theorem G.Own_calls (A0 : Option Addr) (c0 : Nat) (l0 : List (S34)) (r : List (S34)) (w : World) (hr0 : Kd.C k34 w A0 l0.length l0) (hc0 : l0.length ≤ c0) (h : G.Own l0 = some r) :
    Calls Try.prog 23 #[.slice A0 l0.length c0] w fun e w' => ∃ v0_ : Value, e = .returned (v0_) ∧ Kd.S k34 34 w' w.heap.size (fun _ => True) v0_ r ∧ Below w.heap.size w w' := by
  unfold G.Own at h
  split at h
  · rename_i hh
    injection h with h
    subst h
    refine (own_calls A0 c0 l0 w hr0 hh.1 hh.2).mono ?_
    rintro e w' ⟨v, hs, he, hp, hb⟩
    exact ⟨v, he, hp.S_, hb⟩
  · cases h

def G.Right (l0 : List (S34)) : Option (Bool) := some (rightP l0)
theorem G.Right_calls (A0 : Option Addr) (c0 : Nat) (l0 : List (S34)) (r : Bool) (w : World) (hr0 : Kd.C k34 w A0 l0.length l0) (hc0 : l0.length ≤ c0) (h : G.Right l0 = some r) :
    Calls Try.prog 20 #[.slice A0 l0.length c0] w fun e w' => e = .returned (.bool r) ∧ Below w.heap.size w w' := by
  injection h with h
  subst h
  exact right_calls A0 c0 l0 w hr0

def G.Write (l0 : List (S34)) (a1 : Int) (l2 : List Int) : Option ((List (S34)) × Int) := if l0.length ≤ 1000000 ∧ ∀ x ∈ l0, x.f2.length ≤ 1000000000 then some (writeP l0 a1 l2, writeE l0 a1 l2) else none
theorem G.Write_calls (A0 : Option Addr) (c0 : Nat) (l0 : List (S34)) (a1 : Int) (A2 : Option Addr) (c2 : Nat) (l2 : List Int) (r1 : List (S34)) (r2 : Int) (w : World) (hr0 : Kd.C k34 w A0 l0.length l0) (hc0 : l0.length ≤ c0) (hr2 : Kd.C (Kd.int .u8) w A2 l2.length l2) (hc2 : l2.length ≤ c2) (h : G.Write l0 a1 l2 = some (r1, r2)) :
    Calls Try.prog 12 #[.slice A0 l0.length c0, .int .u64 a1, .slice A2 l2.length c2] w fun e w' => ∃ v0_ : Value, e = .returned (.tuple #[v0_, .int .i64 r2]) ∧ Kd.S k34 34 w' w.heap.size (fun _ => True) v0_ r1 ∧ Below w.heap.size w w' := by
  unfold G.Write at h
  split at h
  · rename_i hh
    injection h with h
    injection h with h1 h2
    subst h1
    subst h2
    refine (write_calls A0 c0 l0 a1 A2 c2 l2 w hr0 hr2 hc2 hh.1 hh.2).mono ?_
    rintro e w' ⟨v, hs, he, hp, hb⟩
    exact ⟨v, he, hp.S_, hb⟩
  · cases h

def G.Read (l0 : List (S34)) (a1 : Int) (a2 : Int) : Option (List Int × Int) := some (readP l0 a1 a2, readE l0 a1 a2)
theorem G.Read_calls (A0 : Option Addr) (c0 : Nat) (l0 : List (S34)) (a1 : Int) (a2 : Int) (r1 : List Int) (r2 : Int) (w : World) (hr0 : Kd.C k34 w A0 l0.length l0) (hc0 : l0.length ≤ c0) (h : G.Read l0 a1 a2 = some (r1, r2)) :
    Calls Try.prog 15 #[.slice A0 l0.length c0, .int .u64 a1, .int .i64 a2] w fun e w' => ∃ v0_ : Value, e = .returned (.tuple #[v0_, .int .i64 r2]) ∧ Kd.R (Kd.int .u8) 5 w' w.heap.size (fun _ => True) v0_ r1 ∧ Below w.heap.size w w' := by
  injection h with h
  injection h with h1 h2
  subst h1
  subst h2
  exact read_calls A0 c0 l0 a1 a2 w hr0

def G.Fetch (l0 : List (S34)) (a1 : Int) (a2 : Int) : Option (List Int × Int) := some (fetchP l0 a1 a2, fetchE l0 a1 a2)
theorem G.Fetch_calls (A0 : Option Addr) (c0 : Nat) (l0 : List (S34)) (a1 : Int) (a2 : Int) (r1 : List Int) (r2 : Int) (w : World) (hr0 : Kd.C k34 w A0 l0.length l0) (hc0 : l0.length ≤ c0) (h : G.Fetch l0 a1 a2 = some (r1, r2)) :
    Calls Try.prog 17 #[.slice A0 l0.length c0, .int .u64 a1, .int .i64 a2] w fun e w' => ∃ v0_ : Value, e = .returned (.tuple #[v0_, .int .i64 r2]) ∧ Kd.R (Kd.int .u8) 5 w' w.heap.size (fun _ => True) v0_ r1 ∧ Below w.heap.size w w' := by
  injection h with h
  injection h with h1 h2
  subst h1
  subst h2
  exact fetch_calls A0 c0 l0 a1 a2 w hr0

def G.Find (l0 : List (S34)) (a1 : Int) : Option (Int) := some (findP l0 a1)
theorem G.Find_calls (A0 : Option Addr) (c0 : Nat) (l0 : List (S34)) (a1 : Int) (r : Int) (w : World) (hr0 : Kd.C k34 w A0 l0.length l0) (hc0 : l0.length ≤ c0) (h : G.Find l0 a1 = some r) :
    Calls Try.prog 21 #[.slice A0 l0.length c0, .int .u64 a1] w fun e w' => e = .returned (.int .i64 r) ∧ Below w.heap.size w w' := by
  injection h with h
  subst h
  exact find_calls A0 c0 l0 a1 w hr0

def G.Same (l0 : List (S34)) (l1 : List (S34)) : Option (Bool) := some (sameL l0 l1)
theorem G.Same_calls (A0 : Option Addr) (c0 : Nat) (l0 : List (S34)) (A1 : Option Addr) (c1 : Nat) (l1 : List (S34)) (r : Bool) (w : World) (hr0 : Kd.C k34 w A0 l0.length l0) (hc0 : l0.length ≤ c0) (hr1 : Kd.C k34 w A1 l1.length l1) (hc1 : l1.length ≤ c1) (h : G.Same l0 l1 = some r) :
    Calls Try.prog 24 #[.slice A0 l0.length c0, .slice A1 l1.length c1] w fun e w' => e = .returned (.bool r) ∧ Below w.heap.size w w' := by
  injection h with h
  subst h
  exact same_calls A0 c0 l0 A1 c1 l1 w hr0 hr1
end Go.Proofs.Ytkpkgpopmodagaa.B
