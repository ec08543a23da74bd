/- Plain laws: a body that is shifted along one direction. -/
import Derived.Test.YtggcfjeehpcclaaDoorY2
namespace Go.Proofs.YtggcfjeehpcclaaDoor
open Go.RowKit

theorem room_mono {p q p' q' dx dx' dy : Int} {r r' : Bool} (h0 : 0 ≤ dx) (h : dx ≤ dx') : roomV p q r p' q' r' dx dy ≤ roomV p q r p' q' r' dx' dy := by
  unfold roomV
  cases r <;> cases r' <;> simp only [Bool.false_eq_true, if_false, if_true]
  · omega
  · have := sq_le (a := max (dx - p) 0) (b := max (dx' - p) 0) (by omega) (by omega)
    omega
  · have := sq_le (a := max (dx - p') 0) (b := max (dx' - p') 0) (by omega) (by omega)
    omega
  · have := sq_le h0 h
    omega
theorem room_strict {p q p' q' dx dx' dy : Int} {r r' : Bool} (hp : 1 ≤ p) (hp' : 1 ≤ p') (h0 : 0 ≤ dx) (h : dx < dx') (hz : roomV p q r p' q' r' 0 dy < 0) (he : roomV p q r p' q' r' dx dy = 0) : 0 < roomV p q r p' q' r' dx' dy := by
  unfold roomV at *
  cases r <;> cases r' <;> simp only [Bool.false_eq_true, if_false, if_true] at *
  · omega
  · rw [show max (0 - p) 0 = 0 from by omega] at hz
    rcases Int.lt_or_le p dx with h1 | h1
    · have := sq_lt (a := max (dx - p) 0) (b := max (dx' - p) 0) (by omega) (by omega)
      omega
    · rw [show max (dx - p) 0 = 0 from by omega] at he
      omega
  · rw [show max (0 - p') 0 = 0 from by omega] at hz
    rcases Int.lt_or_le p' dx with h1 | h1
    · have := sq_lt (a := max (dx - p') 0) (b := max (dx' - p') 0) (by omega) (by omega)
      omega
    · rw [show max (dx - p') 0 = 0 from by omega] at he
      omega
  · have := sq_lt h0 h
    omega
theorem room_last {p q p' q' dy : Int} {r r' : Bool} (hp : 1 ≤ p) (hp' : 1 ≤ p') (h : p ≤ 300) (h' : p' ≤ 300) : 0 ≤ roomV p q r p' q' r' 600 dy := by
  unfold roomV
  have n1 := sq_nn (max (dy - q) 0)
  have n2 := sq_nn (max (dy - q') 0)
  have n3 := sq_nn dy
  cases r <;> cases r' <;> simp only [Bool.false_eq_true, if_false, if_true]
  · omega
  · have := sq_le (a := p') (b := max (600 - p) 0) (by omega) (by omega)
    omega
  · have := sq_le (a := p) (b := max (600 - p') 0) (by omega) (by omega)
    omega
  · have := sq_le (a := p + p') (b := 600) (by omega) (by omega)
    omega

structure RunLaw (F : Int → Int) : Prop where
  mono : ∀ e e', 0 ≤ e → e ≤ e' → F e ≤ F e'
  strict : ∀ e e', 0 ≤ e → e < e' → F 0 < 0 → F e = 0 → 0 < F e'
  last : 0 ≤ F 600

/-- How far two bodies are apart when one is shifted by e along one direction. -/
def runF (a b : Body) (al : Bool) (e : Int) : Int := match al with
  | false => roomV a.w a.h a.round b.w b.h b.round e (max (a.posY - b.posY) (-(a.posY - b.posY)))
  | true => roomV a.w a.h a.round b.w b.h b.round (max (a.posX - b.posX) (-(a.posX - b.posX))) e
theorem runF_law {a b : Body} (ha : a.Made) (hb : b.Made) (al : Bool) : RunLaw (runF a b al) := by
  obtain ⟨a1, a2, a3, a4, a5, a6, a7, a8, a9⟩ := ha.m
  obtain ⟨b1, b2, b3, b4, b5, b6, b7, b8, b9⟩ := hb.m
  cases al with
  | false => exact ⟨fun e e' h0 h => room_mono h0 h, fun e e' h0 h hz he => room_strict a5 b5 h0 h hz he, room_last a5 b5 a6 b6⟩
  | true =>
    have sw : ∀ e, runF a b true e = roomV a.h a.w a.round b.h b.w b.round e (max (a.posX - b.posX) (-(a.posX - b.posX))) := fun e => roomV_turn _ _ _ _ _ _ _ _ a9 b9
    refine ⟨fun e e' h0 h => ?_, fun e e' h0 h hz he => ?_, ?_⟩
    · rw [sw, sw]; exact room_mono h0 h
    · rw [sw] at hz he ⊢; exact room_strict a7 b7 h0 h hz he
    · rw [sw]; exact room_last a7 b7 a8 b8

structure RunInv (F : Int → Int) (e o n : Int) : Prop where
  e0 : 0 ≤ e
  e1 : e ≤ 602
  o0 : 0 ≤ o
  o1 : o ≤ e
  n0 : 0 ≤ n
  n1 : n ≤ e
  neg : 0 < o → F (o - 1) < 0
  pos : o < e → 0 ≤ F o
  o600 : o ≤ 600
  many : 0 < o → n = 0 ∨ (n = 1 ∧ F o = 0 ∧ o < e)
  none : o = 0 → (n < e → 0 < F n)
theorem RunInv.start (F : Int → Int) : RunInv F 0 0 0 := ⟨by omega, by omega, by omega, by omega, by omega, by omega, fun h => by omega, fun h => by omega, by omega, fun h => by omega, fun _ h => by omega⟩
variable {F : Int → Int} {e o n : Int}
theorem RunInv.lo (L : RunLaw F) (h : RunInv F e o n) (ho : 0 < o) : F 0 < 0 := by
  have h1 := h.neg ho
  have h2 := L.mono 0 (o - 1) (by omega) (by omega)
  omega
theorem RunInv.less (L : RunLaw F) (h : RunInv F e o n) (he : e ≤ 601) (hf : F e < 0) : o = e ∧ n = 0 ∧ RunInv F (e + 1) (o + 1) n := by
  have ho : o = e := by
    rcases Int.lt_or_le o e with h1 | h1
    · have h2 := h.pos h1
      have h3 := L.mono o e h.o0 (by omega)
      omega
    · have := h.o1; omega
  have hn : n = 0 := by
    rcases Int.lt_or_le 0 o with h1 | h1
    · rcases h.many h1 with h2 | ⟨-, -, h2⟩
      · exact h2
      · omega
    · have := h.n1; have := h.n0; have := h.o0; omega
  have h6 : e < 600 := by
    rcases Int.lt_or_le e 600 with h1 | h1
    · exact h1
    · have h2 := L.mono 600 e (by omega) h1
      have h3 := L.last
      omega
  have he0 := h.e0
  refine ⟨ho, hn, by omega, by omega, by omega, by omega, by omega, by omega, fun _ => ?_, fun hh => by omega, by omega, fun _ => .inl hn, fun hh => by omega⟩
  rw [show o + 1 - 1 = e from by omega]; exact hf
theorem RunInv.same (L : RunLaw F) (h : RunInv F e o n) (he : e ≤ 601) (hf : F e = 0) : (0 < o → o = e) ∧ (o = 0 → n = e) ∧ RunInv F (e + 1) o (n + 1) := by
  have he0 := h.e0
  have ho0 := h.o0
  have ho1 := h.o1
  have hn0 := h.n0
  have hn1 := h.n1
  have k1 : 0 < o → o = e := fun ho => by
    rcases Int.lt_or_le o e with h1 | h1
    · have h2 := h.pos h1
      have h3 := L.mono o e (by omega) (by omega)
      have h4 := L.strict o e (by omega) h1 (h.lo L ho) (by omega)
      omega
    · omega
  have k2 : o = 0 → n = e := fun ho => by
    rcases Int.lt_or_le n e with h1 | h1
    · have h2 := h.none ho h1
      have h3 := L.mono n e hn0 (by omega)
      omega
    · omega
  refine ⟨k1, k2, by omega, by omega, by omega, by omega, by omega, by omega, h.neg, fun hh => ?_, h.o600, fun ho => ?_, fun ho hh => ?_⟩
  · rcases Int.lt_or_le o e with h1 | h1
    · exact h.pos h1
    · rw [show o = e from by omega]; omega
  · have := k1 ho
    rcases h.many ho with h2 | ⟨-, -, h2⟩
    · refine .inr ⟨by omega, by rw [this]; exact hf, by omega⟩
    · omega
  · have := k2 ho; omega
theorem RunInv.more (h : RunInv F e o n) (he : e ≤ 601) (hf : 0 < F e) : RunInv F (e + 1) o n := by
  have he0 := h.e0
  have ho1 := h.o1
  have hn1 := h.n1
  refine ⟨by omega, by omega, h.o0, by omega, h.n0, by omega, h.neg, fun hh => ?_, h.o600, fun ho => ?_, fun ho hh => ?_⟩
  · rcases Int.lt_or_le o e with h1 | h1
    · exact h.pos h1
    · rw [show o = e from by omega]; omega
  · rcases h.many ho with h2 | ⟨h2, h3, h4⟩
    · exact .inl h2
    · exact .inr ⟨h2, h3, by omega⟩
  · rcases Int.lt_or_le n e with h1 | h1
    · exact h.none ho h1
    · rw [show n = e from by omega]; exact hf
theorem RunInv.last (h : RunInv F e o n) : o ≤ 600 ∧ (o = 0 ∨ n ≤ 1) := by
  have := h.o0
  refine ⟨h.o600, ?_⟩
  rcases Int.lt_or_le 0 o with h1 | h1
  · rcases h.many h1 with h2 | ⟨h2, -⟩ <;> exact .inr (by omega)
  · exact .inl (by omega)
end Go.Proofs.YtggcfjeehpcclaaDoor
