/- A symbolic executor with lists, 19: readers of arguments. -/
import Derived.Test.YtcojfohjdibjjaaGreatDoorG17
namespace Go.Proofs.YtcojfohjdibjjaaGreatDoor
open Go.RowKit

/-- How one argument is read. -/
structure Rd (α : Type) where
  pat : SV
  dec : SV → α
  enc : α → SV
  ok : ∀ x, enc (dec x) = jn false pat x
def rdI (k : IntKind) : Rd Int := ⟨.v (.int k 0), SV.iv, fun n => .v (.int k n), fun _ => rfl⟩
def rdB : Rd Bool := ⟨.v (.bool false), SV.bv, fun n => .v (.bool n), fun _ => rfl⟩
/-- An argument that is handed on as it is. -/
def rdX : Rd SV := ⟨.e, id, id, fun _ => rfl⟩
/-- A finite row of numbers. -/
structure Fam where
  n : Nat
  g : Nat → Int
def rdF (k : IntKind) : Rd Fam := ⟨.rs 1 0 fun _ => [.v (.int k 0)], fun x => ⟨x.rn, fun i => (hdS (x.rf i)).iv⟩, fun f => .rs 1 f.n fun i => [.v (.int k (f.g i))], fun _ => rfl⟩
section
variable {α β γ δ ε : Type}
def rds0 : Rds Unit := ⟨[], fun _ => (), fun _ => [], fun _ => rfl⟩
def rds1 (a : Rd α) : Rds α := ⟨[a.pat], fun xs => a.dec (hdS xs), fun x => [a.enc x], fun xs => by simp only [a.ok]; rfl⟩
def rds2 (a : Rd α) (b : Rd β) : Rds (α × β) := ⟨[a.pat, b.pat], fun xs => (a.dec (hdS xs), b.dec (hdS (tlS xs))), fun x => [a.enc x.1, b.enc x.2], fun xs => by simp only [a.ok, b.ok]; rfl⟩
def rds3 (a : Rd α) (b : Rd β) (c : Rd γ) : Rds (α × β × γ) := ⟨[a.pat, b.pat, c.pat], fun xs => (a.dec (hdS xs), b.dec (hdS (tlS xs)), c.dec (hdS (tlS (tlS xs)))), fun x => [a.enc x.1, b.enc x.2.1, c.enc x.2.2], fun xs => by simp only [a.ok, b.ok, c.ok]; rfl⟩
def rds4 (a : Rd α) (b : Rd β) (c : Rd γ) (d : Rd δ) : Rds (α × β × γ × δ) := ⟨[a.pat, b.pat, c.pat, d.pat], fun xs => (a.dec (hdS xs), b.dec (hdS (tlS xs)), c.dec (hdS (tlS (tlS xs))), d.dec (hdS (tlS (tlS (tlS xs))))), fun x => [a.enc x.1, b.enc x.2.1, c.enc x.2.2.1, d.enc x.2.2.2], fun xs => by simp only [a.ok, b.ok, c.ok, d.ok]; rfl⟩
end
def noHow : How := ⟨[], [], [], 0⟩
end Go.Proofs.YtcojfohjdibjjaaGreatDoor
