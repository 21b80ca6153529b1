import Derived.Test.YtdiladmkbpnhoaaGreatLff
set_option linter.unusedSimpArgs false
set_option linter.unusedVariables false
namespace Go.Proofs.YtdiladmkbpnhoaaGreat
open Go Pm
structure CV.Sz (c : CV) (s k : Nat) : Prop where
 x2 : Bd 2 s k c.x
 y2 : Bd 2 s k c.y
 d2 : sz 2 c.d ≤ s
 h1 : 1 ≤ s
 hs : s ≤ 100000000
 hk : k ≤ 100000000
theorem bd_one {s : Nat} {d : Int} (h : sz 2 d ≤ s) : Bd 2 s 1 [d] := ⟨by simp, fun c hc => by simp at hc; subst hc; exact h⟩
theorem bdL' {h n : Nat} {x : List Int} (hx : Bd 2 h n x) : Bd LL h n x := ⟨hx.len, fun c hc => Nat.le_trans (sz_le hLL (Nat.lt_of_lt_of_le (sz_lt (b := 2) (by decide) c) (Nat.pow_le_pow_left (by decide) _))) (hx.sz c hc)⟩
theorem szL' (v : Int) : sz LL v ≤ sz 2 v := sz_le hLL (Nat.lt_of_lt_of_le (sz_lt (b := 2) (by decide) v) (Nat.pow_le_pow_left (by decide) _))
theorem psub_eq (x y : List Int) : padd x (pneg y) = psub x y := Cn.ext (Cn.padd _ _) (Cn.psub _ _) fun t => by rw [V_padd, V_pneg, V_psub]; omega
theorem qSubI_ret {x y : List Int} {s n : Nat} (hx : Bd 2 s n x) (hy : Bd 2 s n y) (hs : s ≤ YY) (hn : n < 1099511627776) : Ret env.P 218 [PI x, PI y] (PI (psub x y)) := by
 have one : sz 2 1 ≤ YY := Nat.le_trans (sz_le (k := 1) (by decide) (by decide)) (by decide)
 have Q : ∀ z : List Int, Bd 2 s n z → QOK (qs z) := fun z hz => by
  rw [← qd_one]
  exact QOK_qd (k := YY) (n := n) (by decide) (hz.mono hs (Nat.le_refl _)) one (Nat.le_refl _) hn
 have e : scaleQ (qs y) (-1) = qs (pneg y) := by rw [← qd_one, negQ_qd (by decide), qd_one]
 have hn' : Bd 2 s n (pneg y) := Bd.pneg hy
 have := qSub_ret (qs x) (qs y) (qs (pneg y)) (Q x hx) (Q y hy) e (Q _ hn')
 rw [← qd_one, ← qd_one, ← qd_one, addQ_qd (by decide), qd_one, qd_one, qd_one, psub_eq, PP_qs, PP_qs, PP_qs] at this
 exact this
end Go.Proofs.YtdiladmkbpnhoaaGreat
