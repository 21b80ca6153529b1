import Derived.Test.YtdiladmkbpnhoaaGreatLec
set_option linter.unusedSimpArgs false
set_option linter.unusedVariables false
namespace Go.Proofs.YtdiladmkbpnhoaaGreat
open Go Pm
@[simp] theorem getElem_zero_nil : ([] : List Int).length = 0 := rfl
theorem BZ.yy {h n : Nat} {a : ZX} (b : BZ h n a) (hh : h ≤ YY) (hn : n ≤ 1099511627775) : Bd 2 YY 1099511627775 a.l := Bd.mono b hh hn
theorem qPrimZ_ret {h n : Nat} {a : ZX} (b : BZ h n a) (h1 : 1 ≤ h) (hh : h ≤ YY) (hn : n < 1099511627776) : Ret env.P 144 [PI a.l] (PI (nf a).l) := by
 have hP := qPrimI_ret a.l b a.c h1 hh hn
 have e : prv a.l = (nf a).l := rfl
 rw [e] at hP
 generalize pcn a.l = c at *
 generalize (nf a).l = d at *
 generalize a.l = x at *
 refine ret_of_Wf (E := env) (fun _ => 0) [(0, PI x)] Tryz.func144 rfl (by kernel_rfl) (by kernel_rfl) (show 1 ≤ 11 by decide) (by simp) ?_
 refine W.sreg (fun K hK => ?_); simp (disch := omega) [gA, wA]; refine W.lv [0] hK fun J j => ?_; clear hK K; simp; refine j _ ?_; clear j J
 refine W.sreg (fun K hK => ?_)
 simp (disch := omega) [gA, wA]
 refine callR hP ?_
 simp (disch := omega) [gA, wA]
 refine W.lv [4] hK fun J j => ?_; clear hK K; simp; refine j _ ?_; clear j J
 refine W.sreg (fun K hK => ?_); simp (disch := omega) [gA, wA]; refine W.lv [2] hK fun J j => ?_; clear hK K; simp; refine j _ ?_; clear j J
 refine W.ret ?_
 simp [go]
theorem qDeriveZ_ret {h n : Nat} {a : ZX} (b : BZ h n a) (hh : h ≤ YY) (hn : n ≤ 1000) : Ret env.P 91 [PI a.l] (PI (ZX.der a).l) := by
 have hlen := b.len
 have e0 : (ZX.der a).l = cutR ((List.range (a.l.length - 1)).map fun k => nth a.l (k + 1) * ((k + 1 : Nat) : Int)) := rfl
 rw [e0]
 have hz := fun k => b.nth k
 generalize a.l = x at *
 generalize hm : x.length - 1 = m at *
 refine ret_of_Wf (E := env) (fun id => if id = 5 then 2 else 0) [(0, PI x)] Tryz.func91 rfl (by kernel_rfl) (by kernel_rfl) (show 1 ≤ 23 by decide) (by simp) ?_
 refine W.sreg (fun K hK => ?_); simp (disch := omega) [gA, wA]; refine W.lv [0] hK fun J j => ?_; clear hK K; simp; refine j _ ?_; clear j J
 refine W.sreg (fun K hK => ?_); simp (disch := omega) [gA, wA]; refine W.lv [0, 3] hK fun J j => ?_; clear hK K; simp; refine j _ ?_; clear j J
 refine W.nil 3 3 43 4 (by simp) (by decide) (fun K hK => ?_)
 refine W.lv [0, 3] hK fun J j => ?_; clear hK K; simp; refine j _ ?_; clear j J
 refine W.seq ?_
 refine W.sreg (fun K hK => ?_); simp (disch := omega) [gA, wA]; refine W.lv [0, 3, 4] hK fun J j => ?_; clear hK K; simp; refine j _ ?_; clear j J
 refine W.block ?_
 refine W.loopG (fun k σ => ∃ (i ver : Nat) (rows : Pm.Rows) (clk : Nat), σ = ⟨fa [(0, PI x), (3, .own 3 ver 0 i), (4, .int .i64 ((i : Int) + 1))], rows, clk⟩ ∧
  rows 3 = some ⟨ver, 43, 4, emap ri ((List.range i).map fun k => nth x (k + 1) * ((k + 1 : Nat) : Int))⟩ ∧ i + k = m) m ?_ ?_
 ·exact ⟨_, .refl, 0, _, _, _, rfl, by simp [emap], by omega⟩
 rintro k _ ⟨i, ver, rows, clk, rfl, hr, hik⟩
 have hil : (emap ri ((List.range i).map fun k => nth x (k + 1) * ((k + 1 : Nat) : Int))).length = i := by simp [emap]
 refine W.seq ?_
 refine W.sreg (fun K hK => ?_); simp (disch := omega) [gA, wA]; refine W.lv [0, 3, 4, 8] hK fun J j => ?_; clear hK K; simp; refine j _ ?_; clear j J
 refine W.cond ⟨_, rfl, fun h => ?_, fun h => ?_⟩
 ·have hi : i + 1 < x.length := by simp at h; omega
  have o1 := OfRI_ret ((i : Int) + 1) (by omega)
  have hzi := hz (i + 1)
  have m1 := MulRI_ret (nth x (i + 1)) ((i : Int) + 1) (Nat.le_trans hzi hh) (Nat.le_trans (sz_le (k := 10) (by decide) (by show ((i : Int) + 1).natAbs < 1024; omega)) (by decide))
  have e1 : ((i : Int) + 1).toNat = i + 1 := by omega
  have er : (List.range (i + 1)).map (fun k => nth x (k + 1) * ((k + 1 : Nat) : Int)) = (List.range i).map (fun k => nth x (k + 1) * ((k + 1 : Nat) : Int)) ++ [nth x (i + 1) * ((i : Int) + 1)] := by
   rw [List.range_succ, List.map_append]; simp
  have hil2 : ((List.range i).map fun k => nth x (k + 1) * ((k + 1 : Nat) : Int)).length = i := by simp
  generalize (List.range i).map (fun k => nth x (k + 1) * ((k + 1 : Nat) : Int)) = acc at *
  generalize hq : nth x (i + 1) * ((i : Int) + 1) = q at *
  refine W.skip ?_
  refine W.seq ?_
  refine W.block ?_
  refine W.drw (fun K hK => ?_)
  rw [if_pos rfl, pregion_tail]
  simp (disch := omega) [gA, wA, e1]
  refine callR o1 ?_
  simp (disch := omega) [gA, wA]
  refine callR m1 ?_
  simp (disch := omega) [gA, wA, hr, hil2]
  refine W.lv [0, 3, 4] hK fun J j => ?_; clear hK K; simp; refine j _ ?_; clear j J
  refine W.reg (fun K hK => ?_); simp (disch := omega) [gA, wA]
  refine hK _ ⟨k - 1, _, Gh_fa _ [0, 3, 4], by omega, i + 1, _, _, _, by rw [Int.natCast_add]; rfl, by rw [er]; simp, by omega⟩
 ·have hi : i = m := by simp at h; omega
  subst hi
  have hcl : ((List.range i).map fun k => nth x (k + 1) * ((k + 1 : Nat) : Int)).length = i := by simp
  generalize (List.range i).map (fun k => nth x (k + 1) * ((k + 1 : Nat) : Int)) = acc at *
  have ez := take_all hcl
  refine W.exit ?_; simp only [pX, if_true, if_false, reduceIte, Nat.reduceEqDiff]
  refine W.sreg (fun K hK => ?_)
  simp (disch := omega) [gA, wA, hr, ez]
  refine callR (qcutI_ret acc (by omega)) ?_
  simp (disch := omega) [gA, wA]
  refine W.lv [2] hK fun J j => ?_; clear hK K; simp; refine j _ ?_; clear j J
  refine W.ret ?_
  simp [go]
theorem qOne_ret : Ret env.P 94 [.sl [[.int .i64 1]]] (PI (1 : ZX).l) := qOf_ret [1] (by decide) (by decide)
theorem qPowZ_ret {a : ZX} {k : Nat} (hk : k < 1099511627776) (h2 : ∀ i, i < k → Ret env.P 122 [PI (a ^ i).l, PI a.l] (PI (a ^ (i + 1)).l)) : Ret env.P 123 [PI a.l, .int .i64 k] (PI (a ^ k).l) := by
 have h1 := qOne_ret
 rw [show (1 : ZX) = a ^ 0 from rfl] at h1
 refine ret_of_Wf (E := env) (fun _ => 0) [(0, PI a.l), (1, .int .i64 k)] Tryz.func123 rfl (by kernel_rfl) (by kernel_rfl) (show 2 ≤ 18 by decide) (by simp) ?_
 refine W.sreg (fun K hK => ?_); simp (disch := omega) [gA, wA]; refine W.lv [0, 1] hK fun J j => ?_; clear hK K; simp; refine j _ ?_; clear j J
 generalize hg : a ^ 0 = g0 at *
 refine W.sreg (fun K hK => ?_)
 simp (disch := omega) [gA, wA]
 refine callR h1 ?_
 simp (disch := omega) [gA, wA]
 refine W.lv [0, 1, 5] hK fun J j => ?_; clear hK K; simp; refine j _ ?_; clear j J
 refine W.seq ?_
 refine W.sreg (fun K hK => ?_); simp (disch := omega) [gA, wA]; refine W.lv [0, 1, 5, 6] hK fun J j => ?_; clear hK K; simp; refine j _ ?_; clear j J
 subst hg
 refine W.block ?_
 refine W.loopG (fun j σ => ∃ (i : Nat) (rows : Pm.Rows) (clk : Nat), σ = ⟨fa [(0, PI a.l), (1, .int .i64 k), (5, PI (a ^ i).l), (6, .int .i64 i)], rows, clk⟩ ∧ i + j = k) k ?_ ?_
 ·exact ⟨_, .refl, 0, _, _, rfl, by omega⟩
 rintro j _ ⟨i, rows, clk, rfl, hik⟩
 refine W.seq ?_
 refine W.sreg (fun K hK => ?_); simp (disch := omega) [gA, wA]; refine W.lv [0, 1, 5, 6, 11] hK fun J j => ?_; clear hK K; simp; refine j _ ?_; clear j J
 refine W.cond ⟨_, rfl, fun h => ?_, fun h => ?_⟩
 ·have hi : i < k := by simp at h; omega
  have ht := h2 i hi
  generalize hg2 : a ^ (i + 1) = g2 at *
  generalize a ^ i = g at *
  refine W.skip ?_
  refine W.seq ?_
  refine W.block ?_
  refine W.reg (fun K hK => ?_)
  simp (disch := omega) [gA, wA]
  refine callR ht ?_
  simp (disch := omega) [gA, wA]
  refine W.lv [0, 1, 5, 6] hK fun J j => ?_; clear hK K; simp; refine j _ ?_; clear j J
  refine W.reg (fun K hK => ?_); simp (disch := omega) [gA, wA]
  subst hg2
  refine hK _ ⟨j - 1, _, Gh_fa _ [0, 1, 5, 6], by omega, i + 1, _, _, rfl, by omega⟩
 ·have hi : i = k := by simp at h; omega
  subst hi
  refine W.exit ?_; simp only [pX, if_true, if_false, reduceIte, Nat.reduceEqDiff]
  refine W.sreg (fun K hK => ?_); simp (disch := omega) [gA, wA]; refine W.lv [4] hK fun J j => ?_; clear hK K; simp; refine j _ ?_; clear j J
  refine W.ret ?_
  simp [go]
end Go.Proofs.YtdiladmkbpnhoaaGreat
