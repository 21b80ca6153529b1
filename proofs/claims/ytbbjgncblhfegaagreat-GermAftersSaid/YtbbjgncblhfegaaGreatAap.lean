import Derived.Test.YtbbjgncblhfegaaGreatAan
import Derived.Test.YtbbjgncblhfegaaGreatAao
set_option linter.unusedSimpArgs false
set_option linter.unusedVariables false
namespace Go.Proofs.YtbbjgncblhfegaaGreat
open Go Pm
open ZX hiding N W
def sR (st : Nat × Int) (s : Int) : Nat × Int := if s = 0 then st else (if st.2 ≠ 0 ∧ s ≠ st.2 then st.1 + 1 else st.1, s)
def vr (l : List Int) : Nat := (l.foldl sR (0, 0)).1
theorem OD (l : List Int) : ∀ st : Nat × Int, (l.foldl sR st).1 ≤ st.1 + l.length := by
 induction l with
 | nil => intro st; simp
 | cons s l ih =>
  intro st
  have h := ih (sR st s)
  have : (sR st s).1 ≤ st.1 + 1 := by
   unfold sR
   split
   ·omega
   ·simp only; split <;> omega
  simp only [List.foldl_cons, List.length_cons]
  omega
theorem AO (l : List Int) : vr l ≤ l.length := by have := OD l (0, 0); simpa [vr] using this
theorem vG {l : List Int} {i : Nat} (h : i < l.length) : (l.take (i + 1)).foldl sR (0, 0) = sR ((l.take i).foldl sR (0, 0)) (nth l i) := by
 rw [List.take_add_one, List.getElem?_eq_getElem h, cS h, List.foldl_append]
 rfl
theorem xZ (l : List Int) (i : Nat) : aF (nth l i) = [.int .i64 (nth l i)] := rfl
theorem OE (l : List Int) (hl : l.length < 1099511627776) : aI env.P 198 [aJ aF l] (.int .i64 (vr l)) := by
 have hv : vr l = ((l.take l.length).foldl sR (0, 0)).1 := by rw [List.take_length]; rfl
 rw [hv]
 have hb : ∀ i, ((l.take i).foldl sR (0, 0)).1 ≤ i := fun i => by have := OD (l.take i) (0, 0); simp at this; omega
 have lR := fun i (h : i < l.length) => vG h
 generalize (fun i => (l.take i).foldl sR (0, 0)) = F at *
 refine aB (E := env) (fun _ => 0) [(0, aJ aF l)] Tryz.func198 rfl (by kernel_rfl) (by kernel_rfl) (show 1 ≤ 34 by decide) (by simp) ?_
 refine W.sr ?_; simp (disch := omega) [gw]; refine W.lx [0] ?_; simp
 refine W.sr ?_; simp (disch := omega) [gw]; refine W.lx [0, 3, 4] ?_; simp
 refine W.seq ?_
 refine W.sr ?_; simp (disch := omega) [gw]; refine W.lx [0, 3, 4, 7, 8] ?_; simp
 refine W.block ?_
 refine W.a9 (fun k σ => ∃ (i : Nat) (n : Nat) (s : Int) (rows : Pm.Rows) (clk : Nat), σ = ⟨fa [(0, aJ aF l), (3, .int .i64 n), (4, .int .i64 s), (7, .int .i64 l.length), (8, .int .i64 i)], rows, clk⟩ ∧ i + k = l.length ∧ (l.take i).foldl sR (0, 0) = (n, s)) l.length ?_ ?_
 ·exact ⟨_, .refl, 0, 0, 0, _, _, rfl, by omega, by simp⟩
 rintro k _ ⟨i, n, s, rows, clk, rfl, I0, hF⟩
 have hni : n ≤ i := by have := hb i; rw [hF] at this; exact this
 refine W.sr ?_; simp (disch := omega) [gw]; refine W.lx [0, 3, 4, 7, 8, 9] ?_; simp
 refine W.seq ?_
 refine W.cond ⟨_, rfl, fun h => ?_, fun h => ?_⟩
 ·have hi : i < l.length := by simp at h; omega
  have qO := lR i hi
  rw [hF] at qO
  generalize hx : nth l i = x at *
  refine W.skip ?_
  refine W.eM (fun σ => ∃ (n' : Nat) (s' : Int) (rows : Pm.Rows) (clk : Nat), σ = ⟨fa [(0, aJ aF l), (3, .int .i64 n'), (4, .int .i64 s'), (7, .int .i64 l.length), (8, .int .i64 i)], rows, clk⟩ ∧ sR (n, s) x = (n', s')) ?_ ?_
  ·refine W.sr ?_; simp (disch := omega) [gw]; refine W.lx [0, 3, 4, 5, 7, 8] ?_; simp
   refine W.sr ?_; simp (disch := omega) [gw, hi, hx, xZ]; refine W.lx [0, 3, 4, 5, 7, 8, 15] ?_; simp
   refine W.cond ⟨_, rfl, fun h => ?_, fun h => ?_⟩
   ·have nM : x ≠ 0 := by simpa using h
    refine W.fX (fun σ => ∃ (n' : Nat) (rows : Pm.Rows) (clk : Nat), σ = ⟨fa [(0, aJ aF l), (3, .int .i64 n'), (5, .int .i64 i), (7, .int .i64 l.length), (8, .int .i64 i)], rows, clk⟩ ∧ sR (n, s) x = (n', x)) ?_ ?_
    ·refine W.gY (fun σ => ∃ (b : Bool) (rows : Pm.Rows) (clk : Nat), σ = ⟨fa [(0, aJ aF l), (3, .int .i64 n), (5, .int .i64 i), (7, .int .i64 l.length), (8, .int .i64 i), (25, .bool b)], rows, clk⟩ ∧ b = decide (s ≠ 0 ∧ x ≠ s)) (fun K hK => ?_) ?_
     ·by_cases TZ : s = 0
      ·subst TZ
       simp (disch := omega) [gw, hi, hx, xZ]
       exact hK _ _ (aC _ [0, 3, 5, 7, 8, 25]) ⟨_, _, _, rfl, by simp⟩
      ·have EM : (s != 0) = true := by simpa using TZ
       simp (disch := omega) [gw, hi, hx, xZ, EM]
       exact hK _ _ (aC _ [0, 3, 5, 7, 8, 25]) ⟨_, _, _, rfl, by simp [TZ]; rfl⟩
     rintro _ ⟨b, rows, clk, rfl, rfl⟩
     refine W.cond ⟨_, rfl, fun h => ?_, fun h => ?_⟩
     ·have h := of_decide_eq_true h
      refine W.b8 (fun K hK => ?_); simp (disch := omega) [gw]
      exact hK _ ⟨_, aC _ [0, 3, 5, 7, 8], n + 1, _, _, rfl, by unfold sR; rw [if_neg nM]; simp only; rw [if_pos h]⟩
     ·have h := of_decide_eq_false h
      refine W.skip ?_
      exact ⟨_, aC _ [0, 3, 5, 7, 8], n, _, _, rfl, by unfold sR; rw [if_neg nM]; simp only; rw [if_neg h]⟩
    rintro _ ⟨n', rows, clk, rfl, uP⟩
    refine W.b8 (fun K hK => ?_); simp (disch := omega) [gw, hi, hx, xZ]
    exact hK _ ⟨_, aC _ [0, 3, 4, 7, 8], n', x, _, _, rfl, uP⟩
   ·have nM : x = 0 := by simpa using h
    refine W.skip ?_
    exact ⟨_, aC _ [0, 3, 4, 7, 8], n, s, _, _, rfl, by unfold sR; rw [if_pos nM]⟩
  rintro _ ⟨n', s', rows, clk, rfl, uP⟩
  refine W.b8 (fun K hK => ?_); simp (disch := omega) [gw]
  refine hK _ ⟨k - 1, _, aC _ [0, 3, 4, 7, 8], by omega, i + 1, n', s', _, _, rfl, by omega, by rw [qO, uP]⟩
 ·have hi : i = l.length := by simp at h; omega
  subst hi
  refine W.exit ?_; simp only [pX, if_true, if_false, reduceIte, Nat.reduceEqDiff]
  refine W.sr ?_; simp (disch := omega) [gw]; refine W.lx [2] ?_; simp
  rw [hF]
  refine W.ret ?_
  simp [go]
def eL (x : List Int) : Int := if x.length % 2 = 0 then -(lead x).sign else (lead x).sign
def eR (x : List Int) : Int := (lead x).sign
def mI (c : List ZX) (n d : Int) : List Int := c.map fun p => o0 p.l n d
def RM (c : List ZX) : List Int := c.map fun p => eL p.l
def RN (c : List ZX) : List Int := c.map fun p => eR p.l
theorem x6 {l : List Int} {v : Int} : emap aF l ++ [[.int .i64 v]] = emap aF (l ++ [v]) := by simp [emap, aF]
theorem B9 {α : Type} [Inhabited α] (f : α → Int) {c : List α} {i : Nat} (h : i < c.length) : (c.take i).map f ++ [f (nth c i)] = (c.take (i + 1)).map f := by
 rw [List.take_add_one, List.getElem?_eq_getElem h, cS h, List.map_append]; rfl
theorem KH {c : List ZX} {n d : Int} (hl : c.length < 1000000) (hS : ∀ p ∈ c, aI env.P 107 [PI p.l, R2 n d] (.int .i64 (o0 p.l n d))) : aI env.P 129 [aJ zq c, R2 n d] (.int .i64 (vr (mI c n d))) := by
 have hT := OE (mI c n d) (by simp [mI]; omega)
 have fA : (emap aF (mI c n d)).length = c.length := by simp [mI, emap]
 have uR : (mI c n d) = (c.take c.length).map fun p => o0 p.l n d := by rw [List.take_length]; rfl
 have htG : (mI c n d).take c.length = mI c n d := List.take_of_length_le (by simp [mI])
 generalize vr (mI c n d) = r at *
 generalize hg : mI c n d = G at *
 refine aB (E := env) (fun _ => 0) [(0, aJ zq c), (1, R2 n d)] Tryz.func129 rfl (by kernel_rfl) (by kernel_rfl) (show 2 ≤ 24 by decide) (by simp) ?_
 refine W.sr ?_; simp (disch := omega) [gw]; refine W.lx [0, 3] ?_; simp
 refine W.sr ?_; simp (disch := omega) [gw]; refine W.lx [0, 3, 5] ?_; simp
 refine W.nil 5 5 3 1 (by simp) (by decide) (fun K hK => ?_)
 refine W.lw [0, 3, 5] hK ?_; clear hK K; simp
 refine W.seq ?_
 refine W.sr ?_; simp (disch := omega) [gw]; refine W.lx [0, 3, 5, 8, 9] ?_; simp
 refine W.block ?_
 refine W.a9 (fun k σ => ∃ (i ver v3 e3 : Nat) (rows : Pm.Rows) (clk : Nat), σ = ⟨fa [(0, aJ zq c), (3, .ptr 3 v3 0 0), (5, .own 5 ver 0 i), (8, .int .i64 c.length), (9, .int .i64 i)], rows, clk⟩ ∧ i + k = c.length ∧
  rows 3 = some ⟨v3, e3, 4, [[aJ aF (aQ DD n.natAbs), .bool (decide (n < 0)), aJ aF (aQ DD d.natAbs), .bool (decide (d < 0))]]⟩ ∧ rows 5 = some ⟨ver, 3, 1, emap aF ((c.take i).map fun p => o0 p.l n d)⟩) c.length ?_ ?_
 ·exact ⟨_, .refl, 0, _, _, _, _, _, rfl, by omega, by simp; first | exact ⟨rfl, rfl⟩ | exact rfl, by simp [emap]⟩
 rintro k _ ⟨i, ver, v3, e3, rows, clk, rfl, I0, fQ, mB⟩
 have sE : ((c.take i).map fun p => o0 p.l n d).length = i := by simp; omega
 refine W.sr ?_; simp (disch := omega) [gw]; refine W.lx [0, 3, 5, 8, 9, 10] ?_; simp
 refine W.seq ?_
 refine W.cond ⟨_, rfl, fun h => ?_, fun h => ?_⟩
 ·have hi : i < c.length := by simp at h; omega
  have hSi := hS _ (bQ hi)
  have WH := B9 (fun p : ZX => o0 p.l n d) hi
  generalize hpr : (c.take i).map (fun p => o0 p.l n d) = pr at *
  generalize hv : o0 (nth c i).l n d = v at *
  have kX : (emap aF pr).length = i := by simp [emap, sE]
  refine W.skip ?_
  refine W.seq ?_
  refine W.block ?_
  refine W.sr ?_; simp (disch := omega) [gw]; refine W.lx [0, 3, 5, 6, 8, 9] ?_; simp
  refine W.M3 (fun K hK => ?_)
  simp (disch := omega) [gw, hi, fQ, mB]
  refine aA hSi ?_
  simp (disch := omega) [gw, mB, kX, x6]
  (try (refine bN (of_decide_eq_true (by kernel_rfl)) ?_)); (try simp (maxSteps := 4000000) (disch := omega) [gw, mB, kX, x6]); (repeat rw [if_pos (by kernel_rfl)]); (try simp (maxSteps := 4000000) (disch := omega) [gw, mB, kX, x6])
  refine W.lw [0, 3, 5, 8, 9] hK ?_; clear hK K; simp
  refine W.b8 (fun K hK => ?_); simp (disch := omega) [gw]
  refine hK _ ⟨k - 1, _, aC _ [0, 3, 5, 8, 9], by omega, i + 1, _, v3, e3, _, _, rfl, by omega, by simp [fQ], by simp [x6, WH]⟩
 ·have hi : i = c.length := by simp at h; omega
  subst hi
  rw [← uR] at mB
  refine W.exit ?_; simp only [pX, if_true, if_false, reduceIte, Nat.reduceEqDiff]
  refine W.sr ?_
  simp (disch := omega) [gw, mB, fA, htG]
  refine aA hT ?_
  simp (disch := omega) [gw]
  refine W.lx [4] ?_; simp
  refine W.ret ?_
  simp [go]
theorem KI {c : List ZX} {n d m e : Int} (hn : sz 2 n ≤ YY) (hd : sz 2 d ≤ YY) (hm : sz 2 m ≤ YY) (he : sz 2 e ≤ YY) (hl : c.length < 1000000) (h1 : aI env.P 129 [aJ zq c, R2 n d] (.int .i64 (vr (mI c n d)))) (h2 : aI env.P 129 [aJ zq c, R2 m e] (.int .i64 (vr (mI c m e)))) :
  aI env.P 59 [aJ zq c, R2 n d, R2 m e] (.int .i64 (if m * d < n * e then 0 else (vr (mI c n d) : Int) - vr (mI c m e))) := by
 have c1 := qW m e n d hm he hn hd
 have v1 := AO (mI c n d)
 have v2 := AO (mI c m e)
 have l1 : (mI c n d).length = c.length := by simp [mI]
 have l2 : (mI c m e).length = c.length := by simp [mI]
 generalize vr (mI c n d) = a at *
 generalize vr (mI c m e) = b at *
 have hc : (dC (m * d) (n * e) < 0) ↔ m * d < n * e := by
  unfold dC; split
  ·omega
  ·split <;> omega
 generalize m * d = xx at *
 generalize n * e = yy at *
 generalize dC xx yy = z at *
 refine aB (E := env) (fun _ => 0) [(0, aJ zq c), (1, R2 n d), (2, R2 m e)] Tryz.func59 rfl (by kernel_rfl) (by kernel_rfl) (show 3 ≤ 18 by decide) (by simp) ?_
 refine W.sr ?_; simp (disch := omega) [gw]; refine W.lx [0, 4, 5] ?_; simp
 refine W.seq ?_
 refine W.sr ?_
 simp (disch := omega) [gw]
 refine aA c1 ?_
 simp (disch := omega) [gw]
 refine W.lx [0, 4, 5, 10] ?_; simp
 refine W.cond ⟨_, rfl, fun h => ?_, fun h => ?_⟩
 ·have h : z < 0 := by simpa using h
  rw [if_pos (hc.1 h)]
  refine W.sr ?_; simp (disch := omega) [gw]; refine W.lx [6] ?_; simp
  refine W.ret ?_
  simp [go]
 ·have h : ¬ z < 0 := by simpa using h
  rw [if_neg (fun hh => h (hc.2 hh))]
  refine W.skip ?_
  refine W.sd ?_
  simp (disch := omega) [gw]
  refine aA h1 ?_
  simp (disch := omega) [gw]
  refine aA h2 ?_
  simp (disch := omega) [gw]
  refine W.lx [6] ?_; simp
  refine W.ret ?_
  simp [go]
theorem aeC {n d : Int} (hn : Z n) (hd : Z d) : aI env.P 35 [R2 n d] (T2 n d) := by
 have t1 := FK n hn
 have t2 := FK d hd
 refine aB (E := env) (fun _ => 0) [(0, R2 n d)] Tryz.func35 rfl (by kernel_rfl) (by kernel_rfl) (show 1 ≤ 10 by decide) (by simp) ?_
 refine W.sr ?_; simp (disch := omega) [gw]; refine W.lx [1, 2] ?_; simp
 refine W.sd ?_
 simp (disch := omega) [gw]
 refine aA t1 ?_
 simp (disch := omega) [gw]
 refine aA t2 ?_
 simp (disch := omega) [gw]
 (try (refine bN (of_decide_eq_true (by kernel_rfl)) ?_)); (try simp (maxSteps := 4000000) (disch := omega) [gw]); (repeat rw [if_pos (by kernel_rfl)]); (try simp (maxSteps := 4000000) (disch := omega) [gw])
 refine W.lx [2] ?_; simp
 refine W.ret ?_
 simp [go]
abbrev CH (c : List ZX) : PV := .rd [aJ zp c]
theorem KJ {l : List Int} (hs : ∀ s ∈ l, s = -1 ∨ s = 0 ∨ s = 1) : ∀ i, i ≤ l.length → ((l.take i).foldl sR (0, 0)).2 = -1 ∨ ((l.take i).foldl sR (0, 0)).2 = 0 ∨ ((l.take i).foldl sR (0, 0)).2 = 1
 | 0, _ => .inr (.inl (by simp))
 | i + 1, h => by
  rw [vG (by omega)]
  have ih := KJ hs i (by omega)
  have := hs _ (bQ (show i < l.length by omega))
  unfold sR
  split
  ·exact ih
  ·exact this
theorem sS (g : FuncId) (hw : E9 g = false) (bR : List PV) (hc : bR.all eY = true) (c : List ZX) (sg : ZX → Int) (hl : c.length < 1000000) (hs : ∀ p ∈ c, sg p = -1 ∨ sg p = 0 ∨ sg p = 1) (hg : ∀ p ∈ c, aI env.P g (Po p.l :: bR) (.int .i64 (sg p))) :
  aI env.P 226 [CH c, .fn g bR] (.int .i64 (vr (c.map sg))) := by
 have hv : vr (c.map sg) = (((c.map sg).take c.length).foldl sR (0, 0)).1 := by rw [List.take_of_length_le (by simp)]; rfl
 rw [hv]
 have hb : ∀ i, (((c.map sg).take i).foldl sR (0, 0)).1 ≤ i := fun i => by have := OD ((c.map sg).take i) (0, 0); simp at this; omega
 have lR := fun i (h : i < (c.map sg).length) => vG h
 have hsg := KJ (l := c.map sg) (fun s h => by
  simp only [List.mem_map] at h
  obtain ⟨p, hp, rfl⟩ := h
  exact hs p hp)
 have hln : (c.map sg).length = c.length := by simp
 have sJ : ∀ i, i < c.length → nth (c.map sg) i = sg (nth c i) := fun i hi => by rw [cS (by simpa using hi), cS hi]; simp
 refine aB (E := env) (fun _ => 0) [(0, CH c), (1, .fn g bR)] Tryz.func226 rfl (by kernel_rfl) (by kernel_rfl) (show 2 ≤ 33 by decide) (by simp) ?_
 refine W.sr ?_; simp (disch := omega) [gw]; refine W.lx [0, 1] ?_; simp
 refine W.sr ?_; simp (disch := omega) [gw]; refine W.lx [0, 1, 5, 6] ?_; simp
 refine W.seq ?_
 refine W.sr ?_; simp (disch := omega) [gw]; refine W.lx [1, 5, 6, 13, 14, 15] ?_; simp
 refine W.block ?_
 refine W.a9 (fun k σ => ∃ (i : Nat) (n : Nat) (s : Int) (rows : Pm.Rows) (clk : Nat), σ = ⟨fa [(1, .fn g bR), (5, .int .i64 n), (6, .int .i64 s), (13, aJ zp c), (14, .int .i64 c.length), (15, .int .i64 i)], rows, clk⟩ ∧ i + k = c.length ∧ ((c.map sg).take i).foldl sR (0, 0) = (n, s)) c.length ?_ ?_
 ·exact ⟨_, .refl, 0, 0, 0, _, _, rfl, by omega, by simp⟩
 rintro k _ ⟨i, n, s, rows, clk, rfl, I0, hF⟩
 have hni : n ≤ i := by have := hb i; rw [hF] at this; exact this
 have hsv := hsg i (by omega)
 rw [hF] at hsv
 simp only at hsv
 refine W.sr ?_; simp (disch := omega) [gw]; refine W.lx [1, 5, 6, 13, 14, 15, 16] ?_; simp
 refine W.seq ?_
 refine W.cond ⟨_, rfl, fun h => ?_, fun h => ?_⟩
 ·have hi : i < c.length := by simp at h; omega
  have qO := lR i (by omega)
  have hgi := hg _ (bQ hi)
  have hxv := hs _ (bQ hi)
  rw [hF, sJ i hi] at qO
  generalize hx : sg (nth c i) = x at *
  refine W.skip ?_
  refine W.eM (fun σ => ∃ (n' : Nat) (s' : Int) (rows : Pm.Rows) (clk : Nat), σ = ⟨fa [(1, .fn g bR), (5, .int .i64 n'), (6, .int .i64 s'), (13, aJ zp c), (14, .int .i64 c.length), (15, .int .i64 i)], rows, clk⟩ ∧ sR (n, s) x = (n', s')) ?_ ?_
  ·refine W.sr ?_; simp (disch := omega) [gw, hi]; refine W.lx [1, 5, 6, 8, 13, 14, 15] ?_; simp
   refine W.sr ?_
   simp only [E9] at hw
   simp (disch := omega) [gw, hw, hc]
   refine aA hgi ?_
   simp (disch := omega) [gw]
   refine W.lx [1, 5, 6, 9, 13, 14, 15] ?_; simp
   refine W.seq ?_
   refine W.sr ?_; simp (disch := omega) [gw]; refine W.lx [1, 5, 6, 9, 13, 14, 15, 23] ?_; simp
   refine W.cond ⟨_, rfl, fun h => ?_, fun h => ?_⟩
   ·have nM : x = 0 := by simpa using h
    refine W.exit ?_; simp only [pX, if_true, if_false, reduceIte, Nat.reduceEqDiff]
    exact ⟨_, aC _ [1, 5, 6, 13, 14, 15], n, s, _, _, rfl, by unfold sR; rw [if_pos nM]⟩
   ·have nM : x ≠ 0 := by simpa using h
    refine W.skip ?_
    refine W.fX (fun σ => ∃ (n' : Nat) (rows : Pm.Rows) (clk : Nat), σ = ⟨fa [(1, .fn g bR), (5, .int .i64 n'), (9, .int .i64 x), (13, aJ zp c), (14, .int .i64 c.length), (15, .int .i64 i)], rows, clk⟩ ∧ sR (n, s) x = (n', x)) ?_ ?_
    ·refine W.sr ?_; simp (disch := omega) [gw]; refine W.lx [1, 5, 9, 13, 14, 15, 27] ?_; simp
     refine W.cond ⟨_, rfl, fun h => ?_, fun h => ?_⟩
     ·have h : s = -x := by simpa using h
      refine W.b8 (fun K hK => ?_); simp (disch := omega) [gw]
      exact hK _ ⟨_, aC _ [1, 5, 9, 13, 14, 15], n + 1, _, _, rfl, by unfold sR; rw [if_neg nM]; simp only; rw [if_pos ⟨by omega, by omega⟩]⟩
     ·have h : ¬ s = -x := by simpa using h
      refine W.skip ?_
      exact ⟨_, aC _ [1, 5, 9, 13, 14, 15], n, _, _, rfl, by unfold sR; rw [if_neg nM]; simp only; rw [if_neg (fun hh => by obtain ⟨h1, h2⟩ := hh; omega)]⟩
    rintro _ ⟨n', rows, clk, rfl, uP⟩
    refine W.b8 (fun K hK => ?_); simp (disch := omega) [gw]
    exact hK _ ⟨_, aC _ [1, 5, 6, 13, 14, 15], n', x, _, _, rfl, uP⟩
  rintro _ ⟨n', s', rows, clk, rfl, uP⟩
  refine W.b8 (fun K hK => ?_); simp (disch := omega) [gw]
  refine hK _ ⟨k - 1, _, aC _ [1, 5, 6, 13, 14, 15], by omega, i + 1, n', s', _, _, rfl, by omega, by rw [qO, uP]⟩
 ·have hi : i = c.length := by simp at h; omega
  subst hi
  refine W.exit ?_; simp only [pX, if_true, if_false, reduceIte, Nat.reduceEqDiff]
  refine W.sr ?_; simp (disch := omega) [gw]; refine W.lx [4] ?_; simp
  rw [hF]
  refine W.ret ?_
  simp [go]
theorem aaW {s k u : Nat} {n d : Int} (hn : sz LL n ≤ u) (hd : sz LL d ≤ u) (hu : 1 ≤ u) : ∀ {x : List Int}, Bd LL s k x → sz LL (hm n d x).1 ≤ s + x.length * (u + 1) ∧ sz LL (hm n d x).2 ≤ x.length * u + 1
 | [], _ => ⟨by show sz LL 0 ≤ _; rw [show sz LL 0 = 0 by decide]; omega, by show sz LL 1 ≤ _; exact Nat.le_trans (cN (k := 1) fS (by decide)) (by omega)⟩
 | a :: l, h => by
  obtain ⟨h1, h2⟩ := aaW hn hd hu (x := l) ⟨Nat.le_trans (by simp) h.len, fun c hc => h.sz c (by simp [hc])⟩
  have ha := h.sz a (by simp)
  have e : (a :: l).length * u = l.length * u + u := by rw [List.length_cons, Nat.add_mul]; omega
  have e' : (a :: l).length * (u + 1) = l.length * u + l.length + u + 1 := by rw [List.length_cons, Nat.add_mul, Nat.mul_add]; omega
  have e'' : l.length * (u + 1) = l.length * u + l.length := by rw [Nat.mul_add]; omega
  refine ⟨?_, ?_⟩
  ·have g1 := bS (b := LL) fS h1 hn
   have g2 := bS (b := LL) fS ha h2
   have := mQ (b := LL) fS (Nat.le_trans g1 (Nat.le_max_left _ (s + (l.length * u + 1)))) (Nat.le_trans g2 (Nat.le_max_right (s + l.length * (u + 1) + u) _))
   refine Nat.le_trans this ?_
   rw [e', e'']
   omega
  ·have := bS (b := LL) fS h2 hd
   rw [e]
   exact Nat.le_trans this (by omega)
theorem U7 {x : List Int} {n d : Int} {s k u : Nat} (hx : Bd LL s k x) (hn : sz LL n ≤ u) (hd : sz LL d ≤ u) (hu : 1 ≤ u) (hk : k < 1099511627776) (hB : s + k * (u + 1) + u < 500000000000) : aI env.P 134 [Po x, I n, I d] (I (hm n d x).1) ∧ Sz (hm n d x).1 := by
 have hl := hx.len
 have hO := zH 1 (by decide) (by decide)
 have bd := fun i => aaW (s := s) (k := k) (x := x.drop i) hn hd hu ⟨by simp; omega, fun c hc => hx.sz c (List.mem_of_mem_drop hc)⟩
 have hle : ∀ i, (x.drop i).length * (u + 1) ≤ k * (u + 1) := fun i => Nat.mul_le_mul_right _ (by simp; omega)
 have aaN : ∀ i, (x.drop i).length * u ≤ (x.drop i).length * (u + 1) := fun i => Nat.mul_le_mul_left _ (by omega)
 have step : ∀ i, i < x.length → hm n d (x.drop i) = ((hm n d (x.drop (i + 1))).1 * n + nth x i * (hm n d (x.drop (i + 1))).2, (hm n d (x.drop (i + 1))).2 * d) := fun i hi => by
  rw [List.drop_eq_getElem_cons hi, cS hi]; rfl
 have N7 : hm n d (x.drop x.length) = (0, 1) := by rw [List.drop_length]; rfl
 have h0 : hm n d (x.drop 0) = hm n d x := rfl
 have hz : Sz (hm n d x).1 := by have := (bd 0).1; have := hle 0; rw [h0] at *; show _ < _; omega
 refine ⟨?_, hz⟩
 have M : ∀ i, i < x.length → aI env.P 109 [I (hm n d (x.drop (i + 1))).1, I n] (I ((hm n d (x.drop (i + 1))).1 * n)) ∧ aI env.P 109 [I (nth x i), I (hm n d (x.drop (i + 1))).2] (I (nth x i * (hm n d (x.drop (i + 1))).2)) ∧
   aI env.P 108 [I ((hm n d (x.drop (i + 1))).1 * n), I (nth x i * (hm n d (x.drop (i + 1))).2)] (I (hm n d (x.drop i)).1) ∧ aI env.P 109 [I (hm n d (x.drop (i + 1))).2, I d] (I (hm n d (x.drop i)).2) := fun i hi => by
  obtain ⟨b1, b2⟩ := bd (i + 1)
  have l1 := hle (i + 1)
  have l2 := aaN (i + 1)
  have ha := hx.sz _ (bQ hi)
  have g1 := bS (b := LL) fS b1 hn
  have g2 := bS (b := LL) fS ha b2
  have zz : ∀ {v : Int}, sz LL v < 1099511627776 → Sz v := fun h => h
  have e := step i hi
  rw [e]
  exact ⟨tK (zz (by omega)) (zz (by omega)), tK (zz (by omega)) (zz (by omega)), QF (zz (by omega)) (zz (by omega)), tK (zz (by omega)) (zz (by omega))⟩
 clear bd hle aaN step hz
 generalize hm n d x = r0 at *
 refine aB (E := env) (fun _ => 0) [(0, Po x), (1, I n), (2, I d)] Tryz.func134 rfl (by kernel_rfl) (by kernel_rfl) (show 3 ≤ 32 by decide) (by simp) ?_
 refine W.sr ?_; simp (disch := omega) [gw]; refine W.lx [0, 4, 5, 6] ?_; simp
 refine W.sr ?_; simp (disch := omega) [gw]; refine W.lx [0, 4, 5, 6, 7] ?_; simp
 refine W.sr ?_
 simp (disch := omega) [gw]
 refine aA hO ?_
 simp (disch := omega) [gw]
 refine W.lx [0, 4, 5, 6, 7, 8] ?_; simp
 refine W.seq ?_
 refine W.sr ?_; simp (disch := omega) [gw]; refine W.lx [0, 4, 5, 6, 7, 8, 9] ?_; simp
 refine W.row (id := 7) (els := [[.bool false, .nil]]) [[.bool (decide ((0 : Int) < 0)), us (aQ LL (0 : Int).natAbs)]] (by simp; first | exact ⟨rfl, rfl, rfl⟩ | exact ⟨rfl, rfl⟩ | rfl) ⟨⟨.inl rfl, .inr ⟨rfl, rfl⟩, trivial⟩, trivial⟩ ?_
 refine W.block ?_
 refine W.a9 (fun k σ => ∃ (v4 v5 v6 v7 v8 e4 e5 e6 e7 e8 : Nat) (rows : Pm.Rows) (clk : Nat), σ = ⟨fa [(0, Po x), (4, .ptr 4 v4 0 0), (5, .ptr 5 v5 0 0), (6, .ptr 6 v6 0 0), (7, .ptr 7 v7 0 0), (8, .ptr 8 v8 0 0), (9, .int .i64 ((k : Int) - 1))], rows, clk⟩ ∧ k ≤ x.length ∧
  rows 4 = some ⟨v4, e4, 2, [[.bool (decide (n < 0)), us (aQ LL n.natAbs)]]⟩ ∧ rows 5 = some ⟨v5, e5, 2, [[.bool (decide (d < 0)), us (aQ LL d.natAbs)]]⟩ ∧ rows 6 = some ⟨v6, e6, 2, [[.bool false, .nil]]⟩ ∧
  rows 7 = some ⟨v7, e7, 2, [[.bool (decide ((hm n d (x.drop k)).1 < 0)), us (aQ LL (hm n d (x.drop k)).1.natAbs)]]⟩ ∧
  rows 8 = some ⟨v8, e8, 2, [[.bool (decide ((hm n d (x.drop k)).2 < 0)), us (aQ LL (hm n d (x.drop k)).2.natAbs)]]⟩) x.length ?_ ?_
 ·exact ⟨_, .refl, _, _, _, _, _, _, _, _, _, _, _, _, rfl, Nat.le_refl _, by simp; (first | exact ⟨rfl, rfl⟩ | rfl), by simp; (first | exact ⟨rfl, rfl⟩ | rfl), by simp; (first | exact ⟨rfl, rfl⟩ | rfl), by rw [N7]; simp; (first | exact ⟨rfl, rfl⟩ | rfl), by rw [N7]; simp; (first | exact ⟨rfl, rfl⟩ | rfl)⟩
 rintro k _ ⟨v4, v5, v6, v7, v8, e4, e5, e6, e7, e8, rows, clk, rfl, hkl, jN, mB, tV, ZA, xG⟩
 refine W.seq ?_
 refine W.sr ?_; simp (disch := omega) [gw]; refine W.lx [0, 4, 5, 6, 7, 8, 9, 15] ?_; simp
 refine W.cond ⟨_, rfl, fun h => ?_, fun h => ?_⟩
 ·have wL : 0 < k := by simp at h; omega
  obtain ⟨k, rfl⟩ : ∃ j, k = j + 1 := ⟨k - 1, by omega⟩
  obtain ⟨m1, m2, m3, m4⟩ := M k (by omega)
  generalize hm n d (x.drop (k + 1)) = A at *
  have e1 : (((k + 1 : Nat) : Int) - 1).toNat = k := by omega
  refine W.skip ?_
  refine W.seq ?_
  refine W.block ?_
  refine W.sd ?_
  simp (disch := omega) [gw, jN, ZA]
  refine aA m1 ?_
  simp (disch := omega) [gw, xG]
  refine aA m2 ?_
  simp (disch := omega) [gw]
  refine aA m3 ?_
  simp (disch := omega) [gw, ZA]
  (try (refine bN (of_decide_eq_true (by kernel_rfl)) ?_)); (try simp (maxSteps := 4000000) (disch := omega) [gw, ZA]); (repeat rw [if_pos (by kernel_rfl)]); (try simp (maxSteps := 4000000) (disch := omega) [gw, ZA])
  refine W.lx [0, 4, 5, 6, 7, 8, 9] ?_; simp
  refine W.b8 (fun K hK => ?_)
  simp (disch := omega) [gw, xG, mB]
  refine aA m4 ?_
  simp (disch := omega) [gw, xG]
  refine W.lw [0, 4, 5, 6, 7, 8, 9] hK ?_; clear hK K; simp
  refine W.b8 (fun K hK => ?_); simp (disch := omega) [gw]
  refine hK _ ⟨k, _, aC _ [0, 4, 5, 6, 7, 8, 9], by omega, v4, v5, v6, v7, v8, _, _, _, _, _, _, _, rfl, by omega, by simp [jN]; exact rfl, by simp [mB]; exact rfl, by simp [tV]; exact rfl, by simp; exact rfl, by simp; exact rfl⟩
 ·have wL : k = 0 := by simp at h; omega
  subst wL
  rw [h0] at ZA
  refine W.exit ?_; simp only [pX, if_true, if_false, reduceIte, Nat.reduceEqDiff]
  refine W.sr ?_; simp (disch := omega) [gw, ZA, tV]; refine W.lx [6] ?_; simp
  refine W.ret ?_
  simp [go]
theorem u4 (v : Int) : dC v 0 = v.sign := by
 rcases Int.lt_trichotomy v 0 with h | h | h
 ·rw [Int.sign_eq_neg_one_of_neg h, l7 h]
 ·subst h; decide
 ·rw [Int.sign_eq_one_of_pos h, l8 h]
theorem vH {x : List Int} {n d : Int} {s k u : Nat} (hx : Bd LL s k x) (cx : Cn x) (hn : sz LL n ≤ u) (hd : sz LL d ≤ u) (hu : 1 ≤ u) (hk : k < 1099511627774) (hu2 : u < 500000000000) (hB : s + k * (u + 1) + u < 500000000000) {q : Rat} (hq : cO n d = q) (sq : sz LL q.num ≤ u ∧ sz LL (q.den : Int) ≤ u) : aI env.P 62 [Po x, T2 n d] (.int .i64 (o0 x q.num q.den)) := by
 have p1 := U6 (n := n) (d := d) (Nat.lt_of_le_of_lt hn (by omega)) (Nat.lt_of_le_of_lt hd (by omega))
 rw [hq] at p1
 have n1 := fG (x := x) (PB.of hx (by omega) (by omega))
 rw [show aM x = x from cx] at n1
 obtain ⟨hV, hz⟩ := U7 hx sq.1 sq.2 hu (by omega) hB
 have c1 := ZE (x := (hm q.num q.den x).1) (y := 0) hz (show sz LL 0 < _ by decide)
 rw [u4, show (hm q.num q.den x).1.sign = o0 x q.num q.den from rfl] at c1
 replace p1 : aI env.P 132 [T2 n d] (T2 q.num q.den) := p1
 generalize o0 x q.num q.den = r at *
 generalize (hm q.num q.den x).1 = v at *
 generalize q.num = qn at *
 generalize (q.den : Int) = qd at *
 refine aB (E := env) (fun _ => 0) [(0, Po x), (1, T2 n d)] Tryz.func62 rfl (by kernel_rfl) (by kernel_rfl) (show 2 ≤ 16 by decide) (by simp) ?_
 refine W.sr ?_; simp (disch := omega) [gw]; refine W.lx [0, 3] ?_; simp
 refine W.sr ?_
 simp (disch := omega) [gw]
 refine aA p1 ?_
 simp (disch := omega) [gw]
 refine W.lx [0, 3] ?_; simp
 refine W.sd ?_
 simp (disch := omega) [gw]
 refine aA n1 ?_
 simp (disch := omega) [gw]
 refine aA hV ?_
 simp (disch := omega) [gw]
 refine aA c1 ?_
 simp (disch := omega) [gw]
 refine W.lx [4] ?_; simp
 refine W.ret ?_
 simp [go]
@[simp] theorem ac1 {l : List PV} : eY (.rd l) = true := rfl
@[simp] theorem YL {l : List PV} : bY (.rd l) = true := rfl
@[simp] theorem ac2 {l : List PV} : aZ (.rd l) = [] := rfl
@[simp] theorem arI {l : List PV} : dA (.rd l) = [] := rfl
@[simp] theorem axj {rows : Pm.Rows} {l : List PV} : fz rows (.rd l) = .rd l := rfl
@[simp] theorem axk {rows : Pm.Rows} {l : List PV} : pz rows (.rd l) = .rd l := rfl
theorem U8 (v : Int) : aI env.P 139 [I v] (.int .i64 v.sign) := by
 have h1 := ZS (decide (v < 0)) (aQ LL v.natAbs)
 have e : (if (aQ LL v.natAbs).length = 0 then 0 else if decide (v < 0) = true then -1 else 1 : Int) = v.sign := by
  by_cases h : v = 0
  ·subst h; decide
  ·have : aQ LL v.natAbs ≠ [] := fun h2 => h (by have := jM fS v.natAbs; rw [h2] at this; simp [V] at this; omega)
   have h3 := List.length_pos_iff.2 this
   rw [if_neg (by omega)]
   rcases Int.lt_trichotomy v 0 with h4 | h4 | h4
   ·rw [if_pos (by simpa using h4), Int.sign_eq_neg_one_of_neg h4]
   ·exact absurd h4 h
   ·rw [if_neg (by simp; omega), Int.sign_eq_one_of_pos h4]
 rw [e] at h1; exact h1
theorem D1 {x : List Int} (hx : PB x) (cx : Cn x) : aI env.P 68 [Po x] (.eP [.int .i64 (eL x), .int .i64 (eR x)]) := by
 have n1 := fG hx
 rw [show aM x = x from cx] at n1
 have l1 := jY hx cx
 have hS := U8 (lead x)
 have hl : x.length < 1099511627776 := by have := hx.B2.len; simpa using this
 have hL : eL x = if x.length % 2 = 0 then -(lead x).sign else (lead x).sign := rfl
 have hR : eR x = (lead x).sign := rfl
 have hs : -1 ≤ (lead x).sign ∧ (lead x).sign ≤ 1 := by
  rcases Int.lt_trichotomy (lead x) 0 with h | h | h
  ·rw [Int.sign_eq_neg_one_of_neg h]; decide
  ·rw [h]; decide
  ·rw [Int.sign_eq_one_of_pos h]; decide
 generalize (lead x).sign = s at *
 generalize lead x = lx at *
 generalize eL x = a at *
 generalize eR x = b at *
 refine aB (E := env) (fun _ => 0) [(0, Po x)] Tryz.func68 rfl (by kernel_rfl) (by kernel_rfl) (show 1 ≤ 18 by decide) (by simp) ?_
 refine W.sr ?_; simp (disch := omega) [gw]; refine W.lx [0] ?_; simp
 refine W.sr ?_
 simp (disch := omega) [gw]
 refine aA n1 ?_
 simp (disch := omega) [gw]
 refine W.lx [0] ?_; simp
 refine W.sr ?_
 simp (disch := omega) [gw]
 refine aA l1 ?_
 simp (disch := omega) [gw]
 refine aA hS ?_
 simp (disch := omega) [gw]
 refine W.lx [0, 3] ?_; simp
 refine W.seq ?_
 refine W.gY (fun σ => ∃ (q : Bool) (rows : Pm.Rows) (clk : Nat), σ = ⟨fa [(3, .int .i64 s), (12, .bool q)], rows, clk⟩ ∧ q = decide (x.length % 2 = 0)) (fun K hK => ?_) ?_
 ·simp (disch := omega) [gw]
  exact hK _ _ (aC _ [3, 12]) ⟨_, _, _, rfl, by rw [Bool.eq_iff_iff]; simp; omega⟩
 rintro _ ⟨q, rows, clk, rfl, rfl⟩
 refine W.cond ⟨_, rfl, fun h => ?_, fun h => ?_⟩
 ·rw [if_pos (of_decide_eq_true h)] at hL
  subst hL hR
  refine W.sr ?_; simp (disch := omega) [gw]; refine W.lx [2, 3] ?_; simp
  refine W.ret ?_
  simp [go]
 ·rw [if_neg (of_decide_eq_false h)] at hL
  subst hL hR
  refine W.skip ?_
  refine W.sr ?_; simp (disch := omega) [gw]; refine W.lx [2, 3] ?_; simp
  refine W.ret ?_
  simp [go]
theorem OG {x : List Int} (hx : PB x) (cx : Cn x) : aI env.P 227 [Po x] (.int .i64 (eL x)) := by
 have h1 := D1 hx cx
 generalize eL x = a at *
 generalize eR x = b at *
 refine aB (E := env) (fun _ => 0) [(0, Po x)] Tryz.func227 rfl (by kernel_rfl) (by kernel_rfl) (show 1 ≤ 11 by decide) (by simp) ?_
 refine W.sr ?_; simp (disch := omega) [gw]; refine W.lx [0] ?_; simp
 refine W.sr ?_
 simp (disch := omega) [gw]
 refine aA h1 ?_
 simp (disch := omega) [gw]
 refine W.lx [3] ?_; simp
 refine W.sr ?_; simp (disch := omega) [gw]; refine W.lx [2] ?_; simp
 refine W.ret ?_
 simp [go]
theorem U9 {x : List Int} (hx : PB x) (cx : Cn x) : aI env.P 228 [Po x] (.int .i64 (eR x)) := by
 have h1 := D1 hx cx
 generalize eL x = a at *
 generalize eR x = b at *
 refine aB (E := env) (fun _ => 0) [(0, Po x)] Tryz.func228 rfl (by kernel_rfl) (by kernel_rfl) (show 1 ≤ 11 by decide) (by simp) ?_
 refine W.sr ?_; simp (disch := omega) [gw]; refine W.lx [0] ?_; simp
 refine W.sr ?_
 simp (disch := omega) [gw]
 refine aA h1 ?_
 simp (disch := omega) [gw]
 refine W.lx [4] ?_; simp
 refine W.sr ?_; simp (disch := omega) [gw]; refine W.lx [2] ?_; simp
 refine W.ret ?_
 simp [go]
theorem aj6 (v : Int) : v.sign = -1 ∨ v.sign = 0 ∨ v.sign = 1 := by
 rcases Int.lt_trichotomy v 0 with h | h | h
 ·exact .inl (Int.sign_eq_neg_one_of_neg h)
 ·rw [h]; exact .inr (.inl rfl)
 ·exact .inr (.inr (Int.sign_eq_one_of_pos h))
theorem eL3 (x : List Int) : eL x = -1 ∨ eL x = 0 ∨ eL x = 1 := by
 have := aj6 (lead x)
 unfold eL; split <;> omega
theorem OH {c : List ZX} (hl : c.length < 1000000) {n d : Int} {q : Rat} (hS : ∀ p ∈ c, aI env.P 62 [Po p.l, T2 n d] (.int .i64 (o0 p.l q.num q.den))) : aI env.P 183 [CH c, T2 n d] (.int .i64 (vr (mI c q.num q.den))) := by
 have hT1 : ∀ p ∈ c, aI env.P 231 [Po p.l, .rd [.bool (decide (n < 0)), us (aQ LL n.natAbs), .bool (decide (d < 0)), us (aQ LL d.natAbs)]] (.int .i64 (o0 p.l q.num q.den)) := fun p hp => by
  have h1 := hS p hp
  generalize o0 p.l q.num q.den = r at *
  generalize p.l = x at *
  refine aB (E := env) (fun _ => 0) [(0, Po x), (1, .rd [.bool (decide (n < 0)), us (aQ LL n.natAbs), .bool (decide (d < 0)), us (aQ LL d.natAbs)])] Tryz.func231 rfl (by kernel_rfl) (by kernel_rfl) (show 2 ≤ 7 by decide) (by simp) ?_
  refine W.sr ?_; simp (disch := omega) [gw]; refine W.lx [0, 1] ?_; simp
  refine W.sr ?_
  simp (disch := omega) [gw]
  refine aA h1 ?_
  simp (disch := omega) [gw]
  refine W.lx [3] ?_; simp
  refine W.ret ?_
  simp [go]
 have h1 := sS 231 rfl [.rd [.bool (decide (n < 0)), us (aQ LL n.natAbs), .bool (decide (d < 0)), us (aQ LL d.natAbs)]] rfl c (fun p => o0 p.l q.num q.den) hl (fun p hp => aj6 _) hT1
 rw [show c.map (fun p => o0 p.l q.num q.den) = mI c q.num q.den from rfl] at h1
 generalize vr (mI c q.num q.den) = r at *
 refine aB (E := env) (fun _ => 0) [(0, CH c), (1, T2 n d)] Tryz.func183 rfl (by kernel_rfl) (by kernel_rfl) (show 2 ≤ 8 by decide) (by simp) ?_
 refine W.sr ?_; simp (disch := omega) [gw]; refine W.lx [0, 3] ?_; simp
 refine W.sr ?_
 simp (disch := omega) [gw]
 refine aA h1 ?_
 simp (disch := omega) [gw]
 refine W.lx [4] ?_; simp
 refine W.ret ?_
 simp [go]
theorem GB {c : List ZX} (hl : c.length < 1000000) {n d m e : Int} {p q : Rat} {z : Int} (hz : aI env.P 105 [T2 m e, T2 n d] (.int .i64 z)) (h1 : aI env.P 183 [CH c, T2 n d] (.int .i64 (vr (mI c p.num p.den)))) (h2 : aI env.P 183 [CH c, T2 m e] (.int .i64 (vr (mI c q.num q.den)))) :
  aI env.P 106 [CH c, T2 n d, T2 m e] (.int .i64 (if z < 0 then 0 else (vr (mI c p.num p.den) : Int) - vr (mI c q.num q.den))) := by
 have v1 := AO (mI c p.num p.den)
 have v2 := AO (mI c q.num q.den)
 have l1 : (mI c p.num p.den).length = c.length := by simp [mI]
 have l2 : (mI c q.num q.den).length = c.length := by simp [mI]
 generalize vr (mI c p.num p.den) = a at *
 generalize vr (mI c q.num q.den) = b at *
 refine aB (E := env) (fun _ => 0) [(0, CH c), (1, T2 n d), (2, T2 m e)] Tryz.func106 rfl (by kernel_rfl) (by kernel_rfl) (show 3 ≤ 18 by decide) (by simp) ?_
 refine W.sr ?_; simp (disch := omega) [gw]; refine W.lx [0, 4, 5] ?_; simp
 refine W.seq ?_
 refine W.sr ?_
 simp (disch := omega) [gw]
 refine aA hz ?_
 simp (disch := omega) [gw]
 refine W.lx [0, 4, 5, 10] ?_; simp
 refine W.cond ⟨_, rfl, fun h => ?_, fun h => ?_⟩
 ·have h : z < 0 := by simpa using h
  rw [if_pos h]
  refine W.sr ?_; simp (disch := omega) [gw]; refine W.lx [6] ?_; simp
  refine W.ret ?_
  simp [go]
 ·have h : ¬ z < 0 := by simpa using h
  rw [if_neg h]
  refine W.skip ?_
  refine W.sd ?_
  simp (disch := omega) [gw]
  refine aA h1 ?_
  simp (disch := omega) [gw]
  refine aA h2 ?_
  simp (disch := omega) [gw]
  refine W.lx [6] ?_; simp
  refine W.ret ?_
  simp [go]
section
variable {c : List ZX} (hl : c.length < 1000000) (hb : ∀ p ∈ c, PB p.l)
include hl hb
theorem VA : aI env.P 165 [CH c] (.int .i64 (vr (RM c))) := by
 have h1 := sS 227 rfl [] rfl c (fun p => eL p.l) hl (fun p hp => eL3 p.l) (fun p hp => OG (hb p hp) p.c)
 rw [show c.map (fun p => eL p.l) = RM c from rfl] at h1
 generalize vr (RM c) = r at *
 refine aB (E := env) (fun _ => 0) [(0, CH c)] Tryz.func165 rfl (by kernel_rfl) (by kernel_rfl) (show 1 ≤ 5 by decide) (by simp) ?_
 refine W.sr ?_; simp (disch := omega) [gw]; refine W.lx [0] ?_; simp
 refine W.sr ?_
 simp (disch := omega) [gw]
 refine aA h1 ?_
 simp (disch := omega) [gw]
 refine W.lx [2] ?_; simp
 refine W.ret ?_
 simp [go]
theorem aaX : aI env.P 166 [CH c] (.int .i64 (vr (RN c))) := by
 have h1 := sS 228 rfl [] rfl c (fun p => eR p.l) hl (fun p hp => aj6 _) (fun p hp => U9 (hb p hp) p.c)
 rw [show c.map (fun p => eR p.l) = RN c from rfl] at h1
 generalize vr (RN c) = r at *
 refine aB (E := env) (fun _ => 0) [(0, CH c)] Tryz.func166 rfl (by kernel_rfl) (by kernel_rfl) (show 1 ≤ 5 by decide) (by simp) ?_
 refine W.sr ?_; simp (disch := omega) [gw]; refine W.lx [0] ?_; simp
 refine W.sr ?_
 simp (disch := omega) [gw]
 refine aA h1 ?_
 simp (disch := omega) [gw]
 refine W.lx [2] ?_; simp
 refine W.ret ?_
 simp [go]
theorem OI : aI env.P 87 [CH c] (.int .i64 ((vr (RM c) : Int) - vr (RN c))) := by
 have h1 := VA hl hb
 have h2 := aaX hl hb
 have v1 := AO (RM c)
 have v2 := AO (RN c)
 have l1 : (RM c).length = c.length := by simp [RM]
 have l2 : (RN c).length = c.length := by simp [RN]
 generalize vr (RM c) = a at *
 generalize vr (RN c) = b at *
 refine aB (E := env) (fun _ => 0) [(0, CH c)] Tryz.func87 rfl (by kernel_rfl) (by kernel_rfl) (show 1 ≤ 8 by decide) (by simp) ?_
 refine W.sr ?_; simp (disch := omega) [gw]; refine W.lx [0] ?_; simp
 refine W.sr ?_
 simp (disch := omega) [gw]
 refine aA h1 ?_
 simp (disch := omega) [gw]
 refine aA h2 ?_
 simp (disch := omega) [gw]
 refine W.lx [2] ?_; simp
 refine W.ret ?_
 simp [go]
end
theorem aaY {a : ZX} (ha : a ≠ 0) : Nf (sq a) ∧ dv (sq a) (nf a) := by
 have nA := gD ha
 unfold sq
 split
 ·exact ⟨nA, dv.refl _⟩
 ·exact ⟨(eU nA 0).1, xS nA 0⟩
theorem qT.sqb {s n : Nat} {a : ZX} (h : qT s n a) (ha : a ≠ 0) : BZ (qb s n) n (sq a) := h.nfz.dv (gD ha) (aaY ha).1 (aaY ha).2
theorem qT.ch {s n : Nat} {a : ZX} (h : qT s n a) (ha : a ≠ 0) (uB : 1 ≤ n) : Ch (qb s n) n (sq a) := ⟨h.sqb ha, h.hn, uB, Nat.le_trans (Nat.mul_le_mul_right _ (by omega)) h.hC⟩
theorem AQ {s n : Nat} {a : ZX} (h : qT s n a) (ha : a ≠ 0) (uB : 1 ≤ n) (h1 : 1 ≤ s) : aI env.P 57 [PI a.l] (aJ zq (bC (sq a))) :=
 wZ (uC h h1) (h.ch ha uB) (by unfold qb; omega)
abbrev AP (x : List Int) (c : List ZX) (n d : Int) : PV := .ag [PI x, aJ zq c, aJ aF (aQ DD n.natAbs), .bool (decide (n < 0)), aJ aF (aQ DD d.natAbs), .bool (decide (d < 0)), aJ aF (aQ DD n.natAbs), .bool (decide (n < 0)), aJ aF (aQ DD d.natAbs), .bool (decide (d < 0))]
theorem p8 {v : Int} {k : Nat} (h : v.natAbs < 2 ^ k) : sz 2 v ≤ k := cN (by decide) h
theorem GC {n d : Int} (hn : n.natAbs < 65536) (hd : d.natAbs < 65536) (h0 : d ≠ 0) : ∃ C : List ZX, aI env.P 56 [R2 n d] (AP [-n, d] C n d) := by
 have cn : Cn [-n, d] := by
  show aM [-n, d] = [-n, d]
  exact fP h0 [-n]
 have bz : BZ 16 2 ⟨[-n, d], cn⟩ := ⟨by simp, fun c hc => by
  simp only [List.mem_cons, List.not_mem_nil, or_false] at hc
  rcases hc with rfl | rfl
  ·exact p8 (by rw [Int.natAbs_neg]; exact hn)
  ·exact p8 hd⟩
 have hL : qT 16 2 ⟨[-n, d], cn⟩ := ⟨bz, by decide, by decide, by decide⟩
 have hc := AQ hL (ZX.aD.2 (by show 0 < [-n, d].length; simp)) (by decide) (by decide)
 generalize bC (sq ⟨[-n, d], cn⟩) = C at *
 refine ⟨C, ?_⟩
 have zs : ∀ {v : Int}, v.natAbs < 65536 → sz 2 v ≤ 16 := fun h => p8 h
 have hO := mA 1 (by decide) (by decide)
 have m1 := jC n 1 (by have := zs hn; simp only [Y]; omega) (by decide)
 have m2 := jC d 1 (by have := zs hd; simp only [Y]; omega) (by decide)
 have hng := zY (n : Rat)
 rw [j6] at m1 m2
 rw [show -((n : Int) : Rat) = ((-n : Int) : Rat) by simp] at hng
 rw [show RR ((n : Int) : Rat) = .ag (ri n) from congrArg PV.ag (eN n)] at m1 hng
 rw [show RR ((d : Int) : Rat) = .ag (ri d) from congrArg PV.ag (eN d)] at m2
 rw [show RR ((-n : Int) : Rat) = .ag (ri (-n)) from congrArg PV.ag (eN (-n))] at hng
 have e1 : PI [-n, d] = .sl [ri (-n), ri d] := rfl
 replace hc : aI env.P 57 [PI [-n, d]] (aJ zq C) := hc
 rw [e1] at hc
 unfold AP
 rw [e1]
 clear e1 hL bz cn
 generalize -n = m at *
 simp only [ZZ, F4] at *
 refine aB (E := env) (fun _ => 0) [(0, R2 n d)] Tryz.func56 rfl (by kernel_rfl) (by kernel_rfl) (show 1 ≤ 20 by decide) (by simp) ?_
 refine W.sr ?_; simp (disch := omega) [gw]; refine W.lx [1, 2] ?_; simp
 refine W.sd ?_
 simp (maxSteps := 4000000) (disch := omega) [gw]
 refine aA hO ?_
 simp (maxSteps := 4000000) (disch := omega) [gw]
 refine aA m1 ?_
 simp (maxSteps := 4000000) (disch := omega) [gw]
 refine aA hng ?_
 simp (maxSteps := 4000000) (disch := omega) [gw]
 refine aA hO ?_
 simp (maxSteps := 4000000) (disch := omega) [gw]
 refine aA m2 ?_
 simp (maxSteps := 4000000) (disch := omega) [gw]
 refine W.lx [1, 2, 3] ?_; simp
 refine W.sd ?_
 simp (maxSteps := 4000000) (disch := omega) [gw]
 refine aA hc ?_
 simp (maxSteps := 4000000) (disch := omega) [gw]
 try (refine bN (by kernel_rfl) ?_)
 try simp (maxSteps := 4000000) (disch := omega) [gw]
 refine W.lx [2] ?_; simp
 refine W.ret ?_
 simp [go]
section
variable {x : List Int} {C : List ZX} {n d : Int}
theorem VB (z : Int) : dC z z = 0 := by unfold dC; simp
theorem KK (hn : sz 2 n ≤ YY) (hd : sz 2 d ≤ YY) : aI env.P 113 [AP x C n d] (.bool true) := by
 have c1 := qW n d n d hn hd hn hd
 rw [VB] at c1
 refine aB (E := env) (fun _ => 0) [(0, AP x C n d)] Tryz.func113 rfl (by kernel_rfl) (by kernel_rfl) (show 1 ≤ 9 by decide) (by simp) ?_
 refine W.sr ?_; simp (disch := omega) [gw]; refine W.lx [1] ?_; simp
 refine W.sr ?_
 simp (disch := omega) [gw]
 refine aA c1 ?_
 simp (disch := omega) [gw]
 refine W.lx [2] ?_; simp
 refine W.ret ?_
 simp [go]
theorem aeD {y : List Int} {v : Int} (hn : sz 2 n ≤ YY) (hd : sz 2 d ≤ YY) (hl : y.length < 9223372036854775808) (hS : aI env.P 107 [PI y, R2 n d] (.int .i64 v)) (hv : y = [] → v = 0) : aI env.P 114 [PI y, AP x C n d] (.bool (decide (v = 0))) := by
 have c1 := KK (x := x) (C := C) hn hd
 refine aB (E := env) (fun _ => 0) [(0, PI y), (1, AP x C n d)] Tryz.func114 rfl (by kernel_rfl) (by kernel_rfl) (show 2 ≤ 31 by decide) (by simp) ?_
 refine W.sr ?_; simp (disch := omega) [gw]; refine W.lx [0, 3] ?_; simp
 refine W.seq ?_
 refine W.sr ?_; simp (disch := omega) [gw]; refine W.lx [0, 3, 8] ?_; simp
 refine W.cond ⟨_, rfl, fun h => ?_, fun h => ?_⟩
 ·have hy : y = [] := by simp at h; exact h
  have hv0 := hv hy
  subst hv0
  refine W.sr ?_; simp (disch := omega) [gw]; refine W.lx [4] ?_; simp
  refine W.ret ?_
  simp [go]
 ·refine W.skip ?_
  refine W.seq ?_
  refine W.sr ?_
  simp (disch := omega) [gw]
  refine aA c1 ?_
  simp (disch := omega) [gw]
  refine W.lx [0, 3, 10] ?_; simp
  refine W.cond ⟨_, rfl, fun h => ?_, fun h => ?_⟩
  ·refine W.sr ?_
   simp (disch := omega) [gw]
   refine aA hS ?_
   simp (disch := omega) [gw]
   refine W.lx [4] ?_; simp
   refine W.ret ?_
   simp [go]
   try rfl
  ·simp at h
theorem VC {y : List Int} {v : Int} (hn : sz 2 n ≤ YY) (hd : sz 2 d ≤ YY) (hl : y.length < 9223372036854775808) (hS : aI env.P 107 [PI y, R2 n d] (.int .i64 v)) (hv : y = [] → v = 0) : aI env.P 135 [PI y, AP x C n d] (.int .i64 v) := by
 have c1 := KK (x := x) (C := C) hn hd
 have z1 := aeD (x := x) (C := C) hn hd hl hS hv
 refine aB (E := env) (fun _ => 0) [(0, PI y), (1, AP x C n d)] Tryz.func135 rfl (by kernel_rfl) (by kernel_rfl) (show 2 ≤ 40 by decide) (by simp) ?_
 refine W.sr ?_; simp (disch := omega) [gw]; refine W.lx [0, 3] ?_; simp
 refine W.seq ?_
 refine W.sr ?_
 simp (disch := omega) [gw]
 refine aA z1 ?_
 simp (disch := omega) [gw]
 refine W.lx [0, 3, 8] ?_; simp
 refine W.cond ⟨_, rfl, fun h => ?_, fun h => ?_⟩
 ·have hv0 : v = 0 := by simp at h; exact h
  subst hv0
  refine W.sr ?_; simp (disch := omega) [gw]; refine W.lx [4] ?_; simp
  refine W.ret ?_
  simp [go]
 ·refine W.skip ?_
  refine W.seq ?_
  refine W.sr ?_
  simp (disch := omega) [gw]
  refine aA c1 ?_
  simp (disch := omega) [gw]
  refine W.lx [0, 3, 15] ?_; simp
  refine W.cond ⟨_, rfl, fun h => ?_, fun h => ?_⟩
  ·refine W.sr ?_
   simp (disch := omega) [gw]
   refine aA hS ?_
   simp (disch := omega) [gw]
   refine W.lx [4] ?_; simp
   refine W.ret ?_
   simp [go]
  ·simp at h
end
def kU (n d : Int) : Nat → ZX → Int
 | 0, _ => 0
 | k + 1, p => if o0 p.l n d = 0 then kU n d k (bK p) else o0 p.l n d
def D2 (n d : Int) (p : ZX) : Int := kU n d (ZX.N p) p
theorem gJ (n d : Int) : ∀ k, kU n d k 0 = 0
 | 0 => rfl
 | k + 1 => by
  have h1 : bK 0 = 0 := rfl
  have h2 : o0 (0 : ZX).l n d = 0 := by show o0 [] n d = 0; rfl
  rw [kU, if_pos h2, h1, gJ n d k]
theorem GD {n d : Int} : ∀ {k j : Nat} {p : ZX}, ZX.N p ≤ k → ZX.N p ≤ j → kU n d k p = kU n d j p
 | 0, j, p, h, _ => by
  have : p = 0 := Classical.byContradiction fun h0 => by have := ZX.aD.1 h0; omega
  rw [this, gJ, gJ]
 | k + 1, 0, p, _, h => by
  have : p = 0 := Classical.byContradiction fun h0 => by have := ZX.aD.1 h0; omega
  rw [this, gJ, gJ]
 | k + 1, j + 1, p, h1, h2 => by
  rw [kU, kU]
  have := kN p
  rw [GD (k := k) (j := j) (p := bK p) (by omega) (by omega)]
theorem aaZ {x : List Int} {C : List ZX} {n d : Int} {s k : Nat} {p : ZX} (hp : BZ s k p) (hk : k ≤ 31) (hs : s ≤ 1000000) (hn : sz 2 n ≤ 16) (hd : sz 2 d ≤ 16) : aI env.P 64 [PI p.l, AP x C n d] (.int .i64 (D2 n d p)) := by
 have hN := hp.N
 have hY : YY = 137438953472 := rfl
 have uP : sz 2 n ≤ YY := by omega
 have S3 : sz 2 d ≤ YY := by omega
 obtain ⟨r, hr⟩ : ∃ r, r = D2 n d p := ⟨_, rfl⟩
 rw [← hr]
 unfold D2 at hr
 refine aB (E := env) (fun _ => 0) [(0, PI p.l), (1, AP x C n d)] Tryz.func64 rfl (by kernel_rfl) (by kernel_rfl) (show 2 ≤ 17 by decide) (by simp) ?_
 refine W.sr ?_; simp (disch := omega) [gw]; refine W.lx [0, 3] ?_; simp
 refine W.seq ?_
 refine W.block ?_
 refine W.a9 (fun m σ => ∃ (q : ZX) (s' v e : Nat) (rows : Pm.Rows) (clk : Nat), σ = ⟨fa [(0, PI q.l), (3, .ptr 3 v 0 0)], rows, clk⟩ ∧
  rows 3 = some ⟨v, e, 10, [[PI x, aJ zq C, aJ aF (aQ DD n.natAbs), .bool (decide (n < 0)), aJ aF (aQ DD d.natAbs), .bool (decide (d < 0)), aJ aF (aQ DD n.natAbs), .bool (decide (n < 0)), aJ aF (aQ DD d.natAbs), .bool (decide (d < 0))]]⟩ ∧ m = ZX.N q ∧ BZ s' k q ∧ s' + 5 * ZX.N q ≤ s + 5 * k ∧ kU n d m q = r) (ZX.N p) ?_ ?_
 ·exact ⟨_, .refl, p, s, _, _, _, _, rfl, by simp; first | exact ⟨rfl, rfl⟩ | exact rfl, rfl, hp, by omega, hr.symm⟩
 rintro m _ ⟨q, s', v, e, rows, clk, rfl, fQ, rfl, bq, hsq, hq⟩
 have hlq := bq.len
 have hNq := bq.N
 have hNl : ZX.N q = q.l.length := rfl
 refine W.seq ?_
 refine W.sr ?_; simp (disch := omega) [gw]; refine W.lx [0, 3, 8] ?_; simp
 refine W.cond ⟨_, rfl, fun h => ?_, fun h => ?_⟩
 ·have BX : q ≠ 0 := ZX.aD.2 (by show 0 < q.l.length; simp at h; omega)
  have hmul : k * (16 + 1) ≤ 31 * 17 := Nat.mul_le_mul hk (Nat.le_refl _)
  have hS := qX (x := q.l) (n := n) (d := d) (u := 16) bq hn hd (by decide) (by omega) (by omega)
  have hSA := VC (x := x) (C := C) uP S3 (by omega) hS (fun h0 => by rw [h0]; rfl)
  have hD := oB bq (by omega) (by omega)
  have aj7 : ZX.N (bK q) < ZX.N q := by have := kN q; have := ZX.aD.1 BX; omega
  have bd := bq.bK hk
  obtain ⟨j, hj⟩ : ∃ j, ZX.N q = j + 1 := ⟨ZX.N q - 1, by have := ZX.aD.1 BX; omega⟩
  rw [hj, kU] at hq
  generalize hv : o0 q.l n d = w at *
  refine W.skip ?_
  refine W.block ?_
  refine W.seq ?_
  refine W.sr ?_
  simp (disch := omega) [gw, fQ]
  refine aA hSA ?_
  simp (disch := omega) [gw]
  refine W.lx [0, 3, 5] ?_; simp
  refine W.sr ?_; simp (disch := omega) [gw]; refine W.lx [0, 3, 5, 13] ?_; simp
  refine W.cond ⟨_, rfl, fun h => ?_, fun h => ?_⟩
  ·have hw : w ≠ 0 := by simpa using h
   rw [if_neg hw] at hq
   subst hq
   refine W.sr ?_; simp (disch := omega) [gw]; refine W.lx [4] ?_; simp
   refine W.ret ?_
   simp [go]
  ·have hw : w = 0 := by simpa using h
   rw [if_pos hw] at hq
   refine W.skip ?_
   refine W.b8 (fun K hK => ?_)
   simp (disch := omega) [gw]
   refine aA hD ?_
   simp (disch := omega) [gw]
   refine hK _ ⟨ZX.N (bK q), _, aC _ [0, 3], aj7, bK q, s' + 5, v, e, _, _, rfl, by simp [fQ], rfl, bd, by omega, ?_⟩
   rw [← hq]
   exact GD (Nat.le_refl _) (by omega)
 ·have BX : q = 0 := by
   refine Classical.byContradiction fun h0 => ?_
   have h1 := ZX.aD.1 h0
   simp at h; rw [hNl, h] at h1; simp at h1
  subst BX
  rw [gJ] at hq
  subst hq
  refine W.exit ?_; simp only [pX, if_true, if_false, reduceIte, Nat.reduceEqDiff]
  refine W.sr ?_; simp (disch := omega) [gw]; refine W.lx [4] ?_; simp
  refine W.ret ?_
  simp [go]
def sml (n d : Int) : Rat := cO (n % 61 - 30) (1 + d % 6)
theorem VD (n d : Int) (hn : -9223372036854775808 ≤ n ∧ n < 9223372036854775808) (hd : -9223372036854775808 ≤ d ∧ d < 9223372036854775808) : aI env.P 36 [.int .i64 n, .int .i64 d] (RR (sml n d)) := by
 have w1 := jX n 61 hn (by decide) (by decide)
 have w2 := jX d 6 hd (by decide) (by decide)
 have h1 := Int.emod_nonneg n (show (61 : Int) ≠ 0 by decide)
 have h2 := Int.emod_lt_of_pos n (show (0 : Int) < 61 by decide)
 have h3 := Int.emod_nonneg d (show (6 : Int) ≠ 0 by decide)
 have h4 := Int.emod_lt_of_pos d (show (0 : Int) < 6 by decide)
 have o1 := n5 (n % 61 - 30) (1 + d % 6) (by omega) (by omega)
 have e : cO (n % 61 - 30) (1 + d % 6) = sml n d := rfl
 rw [e] at o1
 generalize sml n d = q at *
 generalize n % 61 = a at *
 generalize d % 6 = b at *
 rw [b9] at *
 generalize q.num = qn at *
 generalize (q.den : Int) = qd at *
 refine aB (E := env) (fun _ => 0) [(0, .int .i64 n), (1, .int .i64 d)] Tryz.func36 rfl (by kernel_rfl) (by kernel_rfl) (show 2 ≤ 12 by decide) (by simp) ?_
 refine W.sr ?_; simp (disch := omega) [gw]; refine W.lx [0, 1, 4] ?_; simp
 refine W.sr ?_
 simp (disch := omega) [gw]
 refine aA w1 ?_
 simp (disch := omega) [gw]
 refine aA w2 ?_
 simp (disch := omega) [gw]
 refine aA o1 ?_
 simp (disch := omega) [gw]
 refine W.lx [4] ?_; simp
 refine W.ret ?_
 simp [go]
end Go.Proofs.YtbbjgncblhfegaaGreat
namespace Pm
open Go Go.RowKit
def VE (E : Env) (o : Oper) (K : PS → Prop) (σ : PS) : Prop :=
 match o.op with
 | .build t ⟨[(0, x)]⟩ => E.ty t = .struct [(0, 1, false)] (E.ty t).zero ∧ (E.ty t).zero.length = 1 ∧ bO (aR σ.f x) = some [aR σ.f x] ∧ gW σ.rows (aR σ.f x) ∧ K (σ.put o.dst (.ag [aR σ.f x]))
 | _ => False
section
variable {E : Env} {w0 : World} {S0 : c9} {m : Nat} {G : Gs}
theorem OJ {o : Oper} {a : Act} {w : World} {σ : PS} {K : PS → Prop} (h : VE E o K σ) (hR : Rel w0 S0 m G σ a w) (hd : ∀ t, o.dst = some t → t < m)
  {K' : Act → World → Prop} {Q : Exit → Act → World → Prop} (hK : ∀ σ' a' w', K σ' → Rel w0 S0 m G σ' a' w' → K' a' w') : o.wp E.P a w K' Q := by
 obtain ⟨⟨c, rfl, hr, fA, hI, hf, hG⟩, hn, eJ⟩ := hR
 have hρ := kP hf
 obtain ⟨dst, op, type, pos, after, guard⟩ := o
 simp only at hd
 unfold VE at h
 simp only at h
 split at h
 ·rename_i t x
  obtain ⟨hE, EJ, hc, ho, hk⟩ := h
  rw [← hr] at ho
  obtain ⟨g1, g2⟩ := lA (hρ x) hc (fun q hq => by simp at hq; subst hq; exact ho)
  have ht := E.ok t
  rw [hE] at ht
  obtain ⟨⟨fields, hu, ha⟩, hz⟩ := ht
  obtain ⟨i, zv, hi, hzv, _, LX, _⟩ := hz.ok
  have BD : zv.cells.size = 1 := by
   have : (zv.cells.toList.map iE).length = 1 := by rw [LX]; exact EJ
   simpa using this
  have HC : (a.eval x).cells.size = 1 := by have := g1.length; simpa using this.symm
  have CG := nN 0 (a.eval x).cells.toList 0 zv.cells (by simp; omega)
  have hl : ((a.eval x).cells.toList.zipIdx 0).foldl (fun cs (x : Value × Nat) => cs.setIfInBounds (0 + x.2) x.1) zv.cells = (a.eval x).cells := by
   apply Array.toList_inj.1
   rw [CG]
   have h1 : (a.eval x).cells.toList.length = 1 := by simpa using HC
   have h2 : zv.cells.toList.length = 1 := by simpa using BD
   rw [h1]
   simp [List.drop_of_length_le, h2]
  have i3 : (execOp a.eval { dst := dst, op := .build t ⟨[(0, x)]⟩, type := type, pos := pos, after := after, guard := guard }).run E.P c.w = .ok (.value (.agg (a.eval x).cells)) c.w := by
   have ag2 : Instr.fill (fun x => (([(0, 1, false)] : List (Nat × Nat × Bool)).toArray.map fun x => (x.1, x.2.1))[x]?) zv.cells [(0, a.eval x)] = some (a.eval x).cells := by
    have PG : (([(0, 1, false)] : List (Nat × Nat × Bool)).toArray.map fun x => (x.1, x.2.1))[0]? = some (0, 1) := by simp
    simp only [Instr.fill, PG]
    rw [if_neg (by simp [HC, BD])]
    have hz3 : (a.eval x).cells.toList.zipIdx = (a.eval x).cells.zipIdx.toList := by simp
    have h5 : (a.eval x).cells.zipIdx.foldl (fun cs (x : Value × Nat) => cs.setIfInBounds (0 + x.2) x.1) zv.cells = (a.eval x).cells := by
     rw [← Array.foldl_toList, ← hz3]; exact hl
    simp only [h5]
   simp only [execOp, Instr.build, zeroValue, typeInfo, program, Sem.run_bind, Sem.run, hi, hzv, Sem.run_pure, Result.andThen_ok, run_underlying hu, run_places ha]
   simp at ag2
   simp [ag2]
  unfold Oper.wp
  rw [i3]
  refine hK _ _ _ hk ?_
  exact lW hf hG hn eJ (rT.refl c) hI (show aK c (.ag [aR σ.f x]) (.agg (a.eval x).cells) from ⟨(a.eval x).cells.toList, by simp, g1⟩) hd rfl (by simp [PS.put, hr]) fA
 ·exact h.elim
end
theorem W.aj8 {E : Env} {n : Nat} {tl : Nat → Nat} {Q : PX → PS → Prop} {σ : PS} {id : Nat} {ops : List Oper} {y : Code} (i : Nat) {o o2 : Oper} (ho : ops = ops.take i ++ o :: o2 :: ops.drop (i + 2)) (hg : o.guard = none) (mX : o2.guard = none)
  (h : ∀ K : PS → Prop, (∀ σ, W E n tl y Q σ → K σ) → go (aL E ops (ops.take i) (fun σ => B5 E o (fun σ => VE E o2 (aL E ops (ops.drop (i + 2)) K) σ) σ) σ)) : W E n tl (.seq (.region id ops.toArray false) y) Q σ := by
 refine W.seq ?_
 intro fL w0 S0 G a w Q' hR hQ
 simp only [eA, pF, Bool.and_eq_true] at fL
 have hd : ∀ o ∈ ops, ∀ t, o.dst = some t → t < n := fun o ho t ht => by
  have := Array.all_eq_true_iff_forall_mem.1 fL.1 o (by simpa using ho)
  simpa [ht] using this
 refine wp_region_list ?_
 show wpList E.P ops.toArray Q' ops a w
 have h1 := h (fun σ => W E n tl y Q σ) fun _ h => h
 have rZ : o ∈ ops := by rw [ho]; simp
 have apO : o2 ∈ ops := by rw [ho]; simp
 have := mF (E := E) (w0 := w0) (S0 := S0) (m := n) (G := G) (ops := ops.toArray) (Q := Q') (l2 := o :: o2 :: ops.drop (i + 2)) (K := fun σ => B5 E o (fun σ => VE E o2 (aL E ops (ops.drop (i + 2)) (fun σ => W E n tl y Q σ)) σ) σ) (fun σ' a' w' hl j9 => by
  unfold wpList
  rw [if_pos (by simp [Region.wanted, hg])]
  refine .inl (sK hl j9 (hd o rZ) fun σ2 a2 w2 hk hR2 => ?_)
  unfold wpList
  rw [if_pos (by simp [Region.wanted, mX])]
  refine .inl (OJ hk hR2 (hd o2 apO) fun σ3 a3 w3 hk3 hR3 => ?_)
  exact fV (E := E) (ops := ops.toArray) (fun σ4 a4 w4 hk4 hR4 => hQ .normal σ4 a4 w4 hk4 hR4) _ σ3 a3 w3 (fun o ho => hd o (List.mem_of_mem_drop ho)) hk3 hR3) (ops.take i) σ a w (fun o ho => hd o (List.mem_of_mem_take ho)) h1 hR
 rwa [← ho] at this
@[simp] theorem arJ {E : Env} {K : PS → Prop} {f : Nat → PV} {rows : Rows} {clk : Nat} {d : Option Tmp} {ty : TypeId} {pos : String} {af : Array Edge} {t : TypeId} {x : Operand} :
  VE E ⟨d, .build t ⟨[(0, x)]⟩, ty, pos, af, none⟩ K ⟨f, rows, clk⟩ = aH (E.ty t = .struct [(0, 1, false)] (E.ty t).zero ∧ (E.ty t).zero.length = 1) (eK (bO (aR f x)) fun l => aH (l = [aR f x] ∧ fW rows [aR f x]) (K ⟨put f d (.ag [aR f x]), rows, clk⟩)) := by
 simp only [VE, aH, eK, fW, PS.put]
 apply propext
 constructor
 ·rintro ⟨h1, h2, h3, h4, h5⟩; exact ⟨⟨h1, h2⟩, _, h3, ⟨rfl, by simpa using h4⟩, h5⟩
 ·rintro ⟨⟨h1, h2⟩, l, h3, ⟨rfl, h4⟩, h5⟩; exact ⟨h1, h2, h3, by simpa using h4, h5⟩
end Pm
namespace Go.Proofs.YtbbjgncblhfegaaGreat
open Go Pm
theorem BZ.apP {s s' n n' m : Nat} {a c : ZX} (b : BZ s n a) (b' : BZ s' n' c) (hm : ZX.N (a * c) ≤ m) : BZ (s + s' + n') m (a * c) := by
 have h := Bd.bH (by decide) b' b
 rw [u7] at h
 exact ⟨hm, fun d hd => Nat.le_trans (h.sz d hd) (by omega)⟩
theorem aa0 {f : ZX} (hf : f ≠ 0) (bf : BZ 3 3 f) : ∀ k, 1 ≤ k → BZ (6 * k) (2 * k + 1) (f ^ k) ∧ f ^ k ≠ 0 ∧ ZX.N (f ^ k) = k * (ZX.N f - 1) + 1
 | 0, h => by omega
 | 1, _ => by
  have e : f ^ 1 = f := by rw [ZX.pow_succ', ZX.dD]; grind
  rw [e]
  have := ZX.aD.1 hf
  exact ⟨bf.mono (by omega) (by omega), hf, by omega⟩
 | k + 2, _ => by
  obtain ⟨h1, h2, h3⟩ := aa0 hf bf (k + 1) (by omega)
  have hN := ZX.aD.1 hf
  have e : ZX.N (f ^ (k + 2)) = (k + 2) * (ZX.N f - 1) + 1 := by
   rw [ZX.pow_succ', ZX.iB h2 hf, h3, Nat.add_mul, Nat.add_mul]; omega
  have hl : ZX.N f ≤ 3 := bf.N
  refine ⟨?_, ZX.gC h2 hf, e⟩
  have h4 := BZ.apP h1 bf (m := 2 * (k + 2) + 1) (by
   rw [← ZX.pow_succ', e]
   have : (k + 2) * (ZX.N f - 1) ≤ (k + 2) * 2 := Nat.mul_le_mul_left _ (by omega)
   omega)
  rw [ZX.pow_succ']
  exact h4.mono (by omega) (Nat.le_refl _)
theorem OK {x : List Int} (hx : x ≠ []) (hl : x.length ≤ 3) (hc : ∀ c ∈ x, c.natAbs < 8) (RB : x.getLast hx ≠ 0) : BZ 3 3 (ZX.of x) ∧ (ZX.of x).l = x ∧ ZX.of x ≠ 0 := by
 have h1 : aM x = x := by
  obtain ⟨y, z, rfl⟩ : ∃ y z, x = y ++ [z] := ⟨x.dropLast, x.getLast hx, (List.dropLast_concat_getLast hx).symm⟩
  exact fP (by simpa using RB) y
 have h2 : (ZX.of x).l = x := h1
 refine ⟨⟨by rw [h2]; exact hl, fun c NW => ?_⟩, h2, ZX.aD.2 ?_⟩
 ·rw [h2] at NW
  exact cN (by decide) (by have := hc c NW; show _ < 8; exact this)
 ·show 0 < (ZX.of x).l.length
  rw [h2]; exact List.length_pos_iff.2 hx
def fK (l : List Int) (i : Nat) : List Int :=
 if (nth l i).tmod 5 = 3 then [-(nth l i % 9 - 4), nth l (i + 2) % 3 - 1, nth l (i + 1) % 5 + 1] else [-(nth l i % 9 - 4), nth l (i + 1) % 5 + 1]
def p9 (l : List Int) (i : Nat) : Nat := 1 + (nth l (i + 2) % 3).toNat
def uH (l : List Int) (most i : Nat) (p : ZX) : ZX := if most < ZX.N p - 1 + p9 l i * (ZX.N (ZX.of (fK l i)) - 1) then p else p * ZX.of (fK l i) ^ p9 l i
def c7 (l : List Int) (most : Nat) : Nat → ZX
 | 0 => 1
 | j + 1 => uH l most (3 * j) (c7 l most j)
def made (l : List Int) (most : Nat) : ZX := if (0 < l.length ∧ (nth l 0).tmod 7 = 6) then ZX.K (-3) * c7 l most (min 6 (l.length / 3)) else c7 l most (min 6 (l.length / 3))
theorem x7 (l : List Int) (i : Nat) : BZ 3 3 (ZX.of (fK l i)) ∧ (ZX.of (fK l i)).l = fK l i ∧ ZX.of (fK l i) ≠ 0 := by
 have h9 := Int.emod_nonneg (nth l i) (show (9 : Int) ≠ 0 by decide)
 have h9' := Int.emod_lt_of_pos (nth l i) (show (0 : Int) < 9 by decide)
 have h5 := Int.emod_nonneg (nth l (i + 1)) (show (5 : Int) ≠ 0 by decide)
 have h5' := Int.emod_lt_of_pos (nth l (i + 1)) (show (0 : Int) < 5 by decide)
 have h3 := Int.emod_nonneg (nth l (i + 2)) (show (3 : Int) ≠ 0 by decide)
 have h3' := Int.emod_lt_of_pos (nth l (i + 2)) (show (0 : Int) < 3 by decide)
 unfold fK
 split
 ·refine OK (by simp) (by simp) (fun c hc => ?_) (by simp; omega)
  simp only [List.mem_cons, List.not_mem_nil, or_false] at hc
  rcases hc with rfl | rfl | rfl <;> omega
 ·refine OK (by simp) (by simp) (fun c hc => ?_) (by simp; omega)
  simp only [List.mem_cons, List.not_mem_nil, or_false] at hc
  rcases hc with rfl | rfl <;> omega
theorem GF (l : List Int) (i : Nat) : 1 ≤ p9 l i ∧ p9 l i ≤ 3 := by
 have h3 := Int.emod_nonneg (nth l (i + 2)) (show (3 : Int) ≠ 0 by decide)
 have h3' := Int.emod_lt_of_pos (nth l (i + 2)) (show (0 : Int) < 3 by decide)
 unfold p9; omega
theorem aa1 {l : List Int} {most i s : Nat} {p : ZX} (hp : p ≠ 0) (b : BZ s (most + 1) p) : uH l most i p ≠ 0 ∧ BZ (s + 25) (most + 1) (uH l most i p) := by
 obtain ⟨b1, b2, b3⟩ := x7 l i
 obtain ⟨e1, e2⟩ := GF l i
 obtain ⟨h1, h2, h3⟩ := aa0 b3 b1 _ e1
 unfold uH
 split
 ·exact ⟨hp, b.mono (by omega) (Nat.le_refl _)⟩
 ·rename_i h
  have hN := ZX.aD.1 hp
  refine ⟨ZX.gC hp h2, (BZ.apP b h1 (m := most + 1) (by rw [ZX.iB hp h2, h3]; omega)).mono (by omega) (Nat.le_refl _)⟩
theorem lO (l : List Int) (most : Nat) : ∀ j, c7 l most j ≠ 0 ∧ BZ (1 + 25 * j) (most + 1) (c7 l most j)
 | 0 => ⟨ZX.pZ, by show (1 : ZX).l.length ≤ most + 1; exact Nat.succ_le_succ (Nat.zero_le _), fun c hc => by
  have h1 : (1 : ZX).l = [1] := by decide
  have WI : c ∈ (1 : ZX).l := hc
  rw [h1] at WI
  simp at WI; subst WI
  exact cN (by decide) (by decide)⟩
 | j + 1 => by
  obtain ⟨h1, h2⟩ := lO l most j
  obtain ⟨h3, h4⟩ := aa1 (l := l) (i := 3 * j) h1 h2
  exact ⟨h3, h4.mono (by omega) (Nat.le_refl _)⟩
theorem RO (l : List Int) (most : Nat) : made l most ≠ 0 ∧ BZ 153 (most + 1) (made l most) := by
 obtain ⟨h1, h2⟩ := lO l most (min 6 (l.length / 3))
 unfold made
 split
 ·refine ⟨ZX.gC (ZX.oV (by decide)) h1, ?_⟩
  rw [BZ, K_l (by decide)]
  exact ⟨by have := h2.len; simpa using this, fun c hc => by
   simp only [List.mem_map] at hc
   obtain ⟨d, hd, rfl⟩ := hc
   exact Nat.le_trans (bS (by decide) (h2.sz d hd) (cN (k := 2) (by decide) (by decide))) (by omega)⟩
 ·exact ⟨h1, h2.mono (by omega) (Nat.le_refl _)⟩
theorem aa2 (l : List Int) (hl : l.length < 9223372036854775808) (hb : ∀ x ∈ l, -9223372036854775808 ≤ x ∧ x < 9223372036854775808) (most : Nat) (hm : most ≤ 100) : aI env.P 20 [aJ aF l, .int .i64 most] (PI (made l most).l) := by
 obtain ⟨J, hJ⟩ : ∃ J, J = min 6 (l.length / 3) := ⟨_, rfl⟩
 have gX := p7
 have hmd : made l most = if (0 < l.length ∧ (nth l 0).tmod 7 = 6) then ZX.K (-3) * c7 l most J else c7 l most J := by rw [hJ]; rfl
 rw [hmd]
 have h0 : (1 : ZX).l = (c7 l most 0).l := rfl
 rw [h0] at gX
 generalize hg0 : (c7 l most 0).l = g0 at *
 refine aB (E := env) (fun _ => 0) [(0, aJ aF l), (1, .int .i64 most)] Tryz.func20 rfl (by kernel_rfl) (by kernel_rfl) (show 2 ≤ 100 by decide) (by simp) ?_
 refine W.sr ?_; simp (disch := omega) [gw]; refine W.lx [0, 1] ?_; simp
 refine W.sr ?_
 simp (disch := omega) [gw]
 refine aA gX ?_
 simp (disch := omega) [gw]
 refine W.lx [0, 1, 5] ?_; simp
 refine W.seq ?_
 refine W.sr ?_; simp (disch := omega) [gw]; refine W.lx [0, 1, 5, 6] ?_; simp
 subst hg0
 refine W.block ?_
 refine W.a9 (fun k σ => ∃ (i j : Nat) (rows : Pm.Rows) (clk : Nat), σ = ⟨fa [(0, aJ aF l), (1, .int .i64 most), (5, PI (c7 l most j).l), (6, .int .i64 i)], rows, clk⟩ ∧ i = 3 * j ∧ j + k = J) J ?_ ?_
 ·exact ⟨_, .refl, 0, 0, _, _, rfl, rfl, by omega⟩
 rintro k _ ⟨i, j, rows, clk, rfl, hij, hjk⟩
 refine W.seq ?_
 by_cases hj : j < J
 ·have a1 : (i : Int) + 2 < (l.length : Int) := by omega
  have a2 : (i : Int) < 18 := by omega
  refine W.dB (fun K hK => ?_)
  simp (disch := omega) [gw, a1, a2]
  refine W.lw [0, 1, 5, 6, 21] hK ?_; clear hK K; simp
  refine W.cond ⟨_, rfl, fun h => ?_, fun h => ?_⟩
  rotate_left
  ·cases h
  clear h
  obtain ⟨f1, f2, f3⟩ := x7 l i
  obtain ⟨e1, e2⟩ := GF l i
  obtain ⟨p1, p2, p3⟩ := aa0 f3 f1 _ e1
  obtain ⟨m1, m2⟩ := lO l most j
  have hJ6 : J ≤ 6 := by omega
  have hms : c7 l most (j + 1) = uH l most i (c7 l most j) := by rw [hij]; rfl
  have w1 := jX (nth l i) 9 (hb _ (bQ (by omega))) (by decide) (by decide)
  have w2 := jX (nth l (i + 1)) 5 (hb _ (bQ (by omega))) (by decide) (by decide)
  have w3 := jX (nth l (i + 2)) 3 (hb _ (bQ (by omega))) (by decide) (by decide)
  have bi := hb _ (bQ (show i < l.length by omega))
  have h9 := Int.emod_nonneg (nth l i) (show (9 : Int) ≠ 0 by decide)
  have h9' := Int.emod_lt_of_pos (nth l i) (show (0 : Int) < 9 by decide)
  have h5 := Int.emod_nonneg (nth l (i + 1)) (show (5 : Int) ≠ 0 by decide)
  have h5' := Int.emod_lt_of_pos (nth l (i + 1)) (show (0 : Int) < 5 by decide)
  have h3 := Int.emod_nonneg (nth l (i + 2)) (show (3 : Int) ≠ 0 by decide)
  have h3' := Int.emod_lt_of_pos (nth l (i + 2)) (show (0 : Int) < 3 by decide)
  have apQ := DR (a := ZX.of (fK l i)) (k := p9 l i) (by omega) (fun r hr => by
   rcases Nat.eq_zero_or_pos r with h0 | h0
   ·subst h0
    have h1 : BZ 1 1 (1 : ZX) := (lO l 0 0).2
    exact jW _ _ _ _ _ _ h1 f1 (by decide)
   ·obtain ⟨q1, _, _⟩ := aa0 f3 f1 r h0
    exact jW _ _ _ _ _ _ q1 f1 (by show _ < 137438953472; omega))
  have hmul := jW (c7 l most j).l (ZX.of (fK l i) ^ p9 l i).l _ _ _ _ m2 p1 (by show _ < 137438953472; omega)
  have hpN : ZX.N (c7 l most j) = (c7 l most j).l.length := rfl
  have hfN : ZX.N (ZX.of (fK l i)) = (fK l i).length := by show (ZX.of (fK l i)).l.length = _; rw [f2]
  have lS : aM (fK l i) = fK l i := f2
  have apR := OK (x := [-(nth l i % 9 - 4), nth l (i + 1) % 5 + 1]) (by simp) (by simp) (fun c hc => by
   simp only [List.mem_cons, List.not_mem_nil, or_false] at hc
   rcases hc with rfl | rfl <;> omega) (by simp; omega)
  have uM : aM [-(nth l i % 9 - 4), nth l (i + 1) % 5 + 1] = [-(nth l i % 9 - 4), nth l (i + 1) % 5 + 1] := apR.2.1
  have of1 := xO [-(nth l i % 9 - 4), nth l (i + 1) % 5 + 1] (by simp) (fun c hc => by
   simp only [List.mem_cons, List.not_mem_nil, or_false] at hc
   rcases hc with rfl | rfl <;> omega)
  rw [uM] at of1
  have of2 : (nth l i).tmod 5 = 3 → aI env.P 80 [.sl [[.int .i64 (-(nth l i % 9 - 4))], [.int .i64 (nth l (i + 2) % 3 - 1)], [.int .i64 (nth l (i + 1) % 5 + 1)]]] (PI (fK l i)) := fun h => by
   have hx : fK l i = [-(nth l i % 9 - 4), nth l (i + 2) % 3 - 1, nth l (i + 1) % 5 + 1] := by unfold fK; rw [if_pos h]
   have := xO (fK l i) (by rw [hx]; simp) (fun c hc => by
    rw [hx] at hc
    simp only [List.mem_cons, List.not_mem_nil, or_false] at hc
    rcases hc with rfl | rfl | rfl <;> omega)
   rw [lS] at this
   rw [hx] at this ⊢
   exact this
  have ahA : ¬ (nth l i).tmod 5 = 3 → fK l i = [-(nth l i % 9 - 4), nth l (i + 1) % 5 + 1] := fun h => by unfold fK; rw [if_neg h]
  replace of1 : aI env.P 80 [.sl [[.int .i64 (-(nth l i % 9 - 4))], [.int .i64 (nth l (i + 1) % 5 + 1)]]] (PI [-(nth l i % 9 - 4), nth l (i + 1) % 5 + 1]) := of1
  have azn : (fK l i).length = 2 ∨ (fK l i).length = 3 := by unfold fK; split <;> simp
  have hk3 : (p9 l i : Int) = 1 + nth l (i + 2) % 3 := by unfold p9; omega
  have hP6 : p9 l i * (ZX.N (ZX.of (fK l i)) - 1) ≤ 6 := by
   have : p9 l i * (ZX.N (ZX.of (fK l i)) - 1) ≤ 3 * 2 := Nat.mul_le_mul e2 (by rw [hfN]; omega)
   omega
  have hP : (1 + nth l (i + 2) % 3) * (((fK l i).length : Int) - 1) = ((p9 l i * (ZX.N (ZX.of (fK l i)) - 1) : Nat) : Int) := by
   rw [hfN, Int.natCast_mul, hk3]
   congr 1
   omega
  have PG : 0 < (c7 l most j).l.length ∧ (c7 l most j).l.length ≤ most + 1 := ⟨ZX.aD.1 m1, m2.N⟩
  have aeF : c7 l most (j + 1) = if most < (c7 l most j).l.length - 1 + p9 l i * (ZX.N (ZX.of (fK l i)) - 1) then c7 l most j else c7 l most j * ZX.of (fK l i) ^ p9 l i := by rw [hms, uH, hpN]
  rw [← hk3] at hP
  rw [f2] at apQ
  clear hms p1 p2 p3 m1 m2 f1 f2 f3 apR uM lS hpN hfN
  generalize p9 l i * (ZX.N (ZX.of (fK l i)) - 1) = PP at *
  generalize hK : p9 l i = kk at *
  generalize hpm : bH (c7 l most j).l (ZX.of (fK l i) ^ kk).l = pm at *
  have auO : (c7 l most j * ZX.of (fK l i) ^ kk).l = pm := hpm
  generalize ZX.of (fK l i) ^ kk = Fk at *
  generalize hF : fK l i = F at *
  generalize SR : c7 l most j = P0 at *
  have ei1 : ((i : Int) + 1).toNat = i + 1 := by omega
  have ei2 : ((i : Int) + 2).toNat = i + 2 := by omega
  refine W.skip ?_
  refine W.eM (fun σ => ∃ (rows : Pm.Rows) (clk : Nat), σ = ⟨fa [(0, aJ aF l), (1, .int .i64 most), (5, PI (c7 l most (j + 1)).l), (6, .int .i64 i)], rows, clk⟩) ?_ ?_
  ·refine W.sd ?_
   simp (disch := omega) [gw, ei1, ei2]
   refine aA w1 ?_
   simp (disch := omega) [gw, ei1, ei2]
   refine aA w2 ?_
   simp (disch := omega) [gw, ei1, ei2]
   refine aA w3 ?_
   simp (disch := omega) [gw]
   refine W.lx [0, 1, 5, 6, 7, 8, 9] ?_; simp
   refine W.sr ?_
   simp (disch := omega) [gw]
   refine aA of1 ?_
   simp (disch := omega) [gw]
   refine W.lx [0, 1, 5, 6, 7, 8, 9, 10] ?_; simp
   refine W.fX (fun σ => ∃ (rows : Pm.Rows) (clk : Nat), σ = ⟨fa [(0, aJ aF l), (1, .int .i64 most), (5, PI P0.l), (6, .int .i64 i), (9, .int .i64 kk), (10, PI F)], rows, clk⟩) ?_ ?_
   ·refine W.sr ?_; simp (disch := omega) [gw]; refine W.lx [0, 1, 5, 6, 7, 8, 9, 10, 54] ?_; simp
    refine W.cond ⟨_, rfl, fun h => ?_, fun h => ?_⟩
    ·have h : (nth l i).tmod 5 = 3 := by simpa using h
     refine W.b8 (fun K hK => ?_)
     simp (disch := omega) [gw, ei2]
     refine aA w3 ?_
     simp (disch := omega) [gw]
     refine aA (of2 h) ?_
     simp (disch := omega) [gw]
     exact hK _ ⟨_, aC _ [0, 1, 5, 6, 9, 10], _, _, by rw [hk3]; rfl⟩
    ·have h : ¬ (nth l i).tmod 5 = 3 := by simpa using h
     rw [ahA h]
     refine W.skip ?_
     exact ⟨_, aC _ [0, 1, 5, 6, 9, 10], _, _, by rw [hk3]; rfl⟩
   rintro _ ⟨rows, clk, rfl⟩
   refine W.seq ?_
   refine W.sr ?_; simp (disch := omega) [gw, hP]; refine W.lx [0, 1, 5, 6, 9, 10, 77] ?_; simp
   refine W.cond ⟨_, rfl, fun h => ?_, fun h => ?_⟩
   ·have h : most < P0.l.length - 1 + PP := by simp at h; omega
    rw [if_pos h] at aeF
    rw [aeF]
    refine W.exit ?_; simp only [pX, if_true, if_false, reduceIte, Nat.reduceEqDiff]
    exact ⟨_, aC _ [0, 1, 5, 6], _, _, rfl⟩
   ·have h : ¬ most < P0.l.length - 1 + PP := by simp at h; omega
    rw [if_neg h] at aeF
    rw [aeF, auO]
    refine W.skip ?_
    refine W.b8 (fun K hK => ?_)
    simp (disch := omega) [gw]
    refine aA apQ ?_
    simp (disch := omega) [gw]
    refine aA hmul ?_
    simp (disch := omega) [gw]
    exact hK _ ⟨_, aC _ [0, 1, 5, 6], _, _, rfl⟩
  rintro _ ⟨rows, clk, rfl⟩
  refine W.b8 (fun K hK => ?_); simp (disch := omega) [gw]
  refine hK _ ⟨k - 1, _, aC _ [0, 1, 5, 6], by omega, i + 3, j + 1, _, _, rfl, by omega, by omega⟩
 ·have hjJ : j = J := by omega
  subst hjJ
  refine W.gY (fun σ => ∃ (rows : Pm.Rows) (clk : Nat), σ = ⟨fa [(0, aJ aF l), (5, PI (c7 l most j).l), (21, .bool false)], rows, clk⟩) (fun K hK => ?_) ?_
  ·by_cases a1 : (i : Int) + 2 < (l.length : Int)
   ·have a2 : ¬ (i : Int) < 18 := by omega
    simp (disch := omega) [gw, a1, a2]
    exact hK _ _ (aC _ [0, 5, 21]) ⟨_, _, rfl⟩
   ·simp (disch := omega) [gw, a1]
    exact hK _ _ (aC _ [0, 5, 21]) ⟨_, _, rfl⟩
  rintro _ ⟨rows, clk, rfl⟩
  refine W.cond ⟨_, rfl, fun h => ?_, fun h => ?_⟩
  ·cases h
  clear h
  have of3 := xO [-3] (by decide) (by decide)
  replace of3 : aI env.P 80 [.sl [[.int .i64 (-3)]]] (PI [-3]) := of3
  obtain ⟨m1, m2⟩ := lO l most j
  have hsc := JH (c7 l most j).l (-3) (m2.yy (by show _ ≤ 137438953472; omega) (by omega)) (by show sz 2 (-3) ≤ 137438953472; exact Nat.le_trans (cN (k := 2) (by decide) (by decide)) (by decide))
  have hsl : aV (c7 l most j).l (-3) = (ZX.K (-3) * c7 l most j).l := Cn.ext (Cn.aV _ _) (ZX.K (-3) * c7 l most j).c fun t => by rw [bV, ZX.cU, ZX.rE, Int.mul_comm]
  rw [hsl] at hsc
  refine W.exit ?_; simp only [pX, if_true, if_false, reduceIte, Nat.reduceEqDiff]
  refine W.fX (fun σ => ∃ (rows : Pm.Rows) (clk : Nat), σ = ⟨fa [(5, PI (if (0 < l.length ∧ (nth l 0).tmod 7 = 6) then ZX.K (-3) * c7 l most j else c7 l most j).l)], rows, clk⟩) ?_ ?_
  ·by_cases uN : 0 < l.length
   ·by_cases h7 : (nth l 0).tmod 7 = 6
    ·rw [if_pos ⟨uN, h7⟩]
     have b7 : ((nth l 0).tmod 7 == 6) = true := by simpa using h7
     refine W.sr ?_
     simp (disch := omega) [gw, uN, b7, h7]
     refine W.lx [5, 92] ?_; simp
     refine W.cond ⟨_, rfl, fun h => ?_, fun h => ?_⟩
     ·refine W.b8 (fun K hK => ?_)
      simp (disch := omega) [gw]
      refine aA of3 ?_
      simp (disch := omega) [gw]
      refine aA hsc ?_
      simp (disch := omega) [gw]
      exact hK _ ⟨_, aC _ [5], _, _, rfl⟩
     ·cases h
    ·rw [if_neg (fun h => h7 h.2)]
     have b7 : ((nth l 0).tmod 7 == 6) = false := by simpa using h7
     refine W.sr ?_
     simp (disch := omega) [gw, uN, b7, h7]
     refine W.lx [5, 92] ?_; simp
     refine W.cond ⟨_, rfl, fun h => ?_, fun h => ?_⟩
     ·cases h
     ·refine W.skip ?_
      exact ⟨_, aC _ [5], _, _, rfl⟩
   ·rw [if_neg (fun h => uN h.1)]
    have hl1 : l.length = 0 := by omega
    refine W.sr ?_
    simp (disch := omega) [gw, hl1]
    refine W.lx [5, 92] ?_; simp
    refine W.cond ⟨_, rfl, fun h => ?_, fun h => ?_⟩
    ·cases h
    ·refine W.skip ?_
     exact ⟨_, aC _ [5], _, _, rfl⟩
  rintro _ ⟨rows, clk, rfl⟩
  refine W.sr ?_; simp (disch := omega) [gw]; refine W.lx [4] ?_; simp
  refine W.ret ?_
  simp [go]
theorem BZ.z {h n : Nat} {a : ZX} (b : BZ h n a) (hh : h < 1099511627776) : ∀ c ∈ a.l, Z c := fun c hc => Nat.lt_of_le_of_lt (b.sz c hc) hh
theorem GG {h n : Nat} {a : ZX} (b : BZ h n a) (hh : h < 1099511627776) (hn : n < 1099511627776) : aI env.P 22 [PI a.l] (Po a.l) := aei a.l (b.z hh) (Nat.lt_of_le_of_lt b.len hn)
theorem apS {a b : ZX} (ha : a ≠ 0) (hb : Nf b) (h : ∀ p, ZX.n7 p → ZX.mu p b = min (ZX.mu p a) 1) : sq a = b := by
 have nA := gD ha
 have e : sq a = sz' (nf a) := by
  unfold sq
  split
  ·rename_i h2
   have h3 : nf a = 1 := nA.N1 (by rw [B4]; exact h2)
   rw [h3]
   show 1 = wz 1 0
   rw [wz]
   show 1 = qz 1 (gd 1)
   rw [aaz, Nf.one.self]
  ·rfl
 rw [e]
 exact Nf.AF (aaA nA) hb fun p hp => by rw [aaC nA hp, J4 hp ha, h p hp]
theorem KL {a : ZX} {n : Nat} (hn : a.l.length ≤ n) (hc : ∀ c ∈ a.l, c.natAbs < 8) : BZ 3 n a := ⟨hn, fun c h => cN (by decide) (by have := hc c h; show _ < 8; exact this)⟩
end Go.Proofs.YtbbjgncblhfegaaGreat
namespace Go.Proofs.YtbbjgncblhfegaaGreat
open Go Pm
open ZX hiding N W
theorem RQ {a : ZX} (h : 2 ≤ ZX.N a) : nth (bK a).l (ZX.N a - 2) = lead a.l * ((ZX.N a - 1 : Nat) : Int) := by
 have h1 : a.l.length = ZX.N a := rfl
 have h2 : nth (bK a).l (ZX.N a - 2) = nth a.l (ZX.N a - 1) * ((ZX.N a - 1 : Nat) : Int) := by
  show nth (aM (vC a.l)) _ = _
  rw [gZ, vC, cS (by simp; omega)]
  simp only [List.getElem_map, List.getElem_range]
  rw [show ZX.N a - 2 + 1 = ZX.N a - 1 by omega]
 rw [h2, lead, h1]
theorem aa3 {a : ZX} (h : 2 ≤ ZX.N a) : ZX.N (bK a) = ZX.N a - 1 := by
 have h1 := kN a
 have h2 := RQ h
 have hl := cD a.c (show 0 < a.l.length from by have : a.l.length = ZX.N a := rfl; omega)
 have h3 : nth (bK a).l (ZX.N a - 2) ≠ 0 := by rw [h2]; exact Int.mul_ne_zero hl (by omega)
 rcases Nat.lt_or_ge (ZX.N a - 2) (bK a).l.length with h4 | h4
 ·have : ZX.N (bK a) = (bK a).l.length := rfl
  omega
 ·exact absurd (fY h4) h3
theorem aa4 {a : ZX} (h : 2 ≤ ZX.N a) : lead (bK a).l = lead a.l * ((ZX.N a - 1 : Nat) : Int) := by
 rw [← RQ h, lead, show (bK a).l.length = ZX.N (bK a) from rfl, aa3 h, show ZX.N a - 1 - 1 = ZX.N a - 2 by omega]
theorem VF {a : ZX} (h : ZX.N a ≤ 1) : bK a = 0 := by
 refine Classical.byContradiction fun h0 => ?_
 have h1 := ZX.aD.1 h0
 have := kN a
 omega
theorem aeG {f : ZX} (hf : Nf f) : pV (bK f).l = (oS (bK f)).l := by
 have h : ¬ lead (bK f).l < 0 := by
  rcases Nat.lt_or_ge (ZX.N f) 2 with h2 | h2
  ·rw [VF (by omega)]; decide
  ·rw [aa4 h2]
   have := Int.mul_nonneg (Int.le_of_lt hf.l) (show (0 : Int) ≤ ((ZX.N f - 1 : Nat) : Int) by omega)
   omega
 show _ = iX (bK f).l
 rw [JR, if_neg h]
theorem RS {α : Type} {g : α → List PV} {l : List α} {s n : Nat} {f : ZX} (hS : aI env.P 83 [aJ g l] (Po f.l)) (h : Ch s n f) (hf : Nf f) : aI env.P 82 [aJ g l] (.eP [CH (bC f), .int .i64 0]) := by
 have hn := h.hn
 have hp := h.pot
 have hs := hp.le
 have bd : BZ (s + 5) n (bK f) := h.bz.bK (by omega)
 have d1 := sI h.bz (by omega) (by omega)
 have d2 := rS ((bK f).l.map rC) (bd.B2 (by omega) (by omega)) (s := s + 5) (n := n) (by rw [bP]; exact G6 bd) (by omega) (by omega)
 rw [wX, ← iA, aeG hf] at d2
 have b2 : BZ (s + 5) n (oS (bK f)) := iC bd
 have b1 : BZ (s + 5) n f := h.bz.mono (by omega) (Nat.le_refl _)
 have JM : ZX.N (oS (bK f)) ≤ ZX.N f := Nat.le_trans (kE _) (Nat.le_trans (kN f) (by omega))
 have hc : bC f = f :: sL (ZX.N f) f (oS (bK f)) := rfl
 rw [AM JM (Nat.le_refl _)] at hc
 have hf0 : f.l.length ≠ 0 := by have := ZX.aD.1 hf.ne; exact Nat.pos_iff_ne_zero.1 this
 have hf1 : ¬ f.l = [] := fun h0 => hf0 (by rw [h0]; rfl)
 generalize hC : bC f = C at *
 generalize oS (bK f) = g0 at *
 generalize j1 (bK f).l = pc at *
 generalize (bK f).l = dl at *
 refine aB (E := env) (fun _ => 0) [(0, aJ g l)] Tryz.func82 rfl (by kernel_rfl) (by kernel_rfl) (show 1 ≤ 48 by decide) (by simp) ?_
 refine W.sr ?_; simp (disch := omega) [gw]; refine W.lx [0] ?_; simp
 refine W.sr ?_
 simp (disch := omega) [gw]
 refine aA hS ?_
 simp (disch := omega) [gw]
 refine W.lx [4] ?_; simp
 refine W.seq ?_
 refine W.sr ?_; simp (disch := omega) [gw]; refine W.lx [4, 14] ?_; simp
 refine W.cond ⟨_, rfl, fun h => ?_, fun h => ?_⟩
 ·simp at h; exact absurd h hf1
 refine W.skip ?_
 refine W.aj8 1 rfl rfl rfl (fun K hK => ?_)
 simp (disch := omega) [gw]
 refine W.lw [4, 5] hK ?_; clear hK K; simp
 refine W.sr ?_
 simp (disch := omega) [gw]
 refine aA d1 ?_
 simp (disch := omega) [gw]
 refine aA d2 ?_
 simp (disch := omega) [gw]
 refine W.lx [4, 5, 7] ?_; simp
 refine W.seq ?_
 refine W.block ?_
 refine W.a9 (fun k σ => ∃ (L : List ZX) (x y : ZX) (i ver v18 e18 s : Nat) (rows : Pm.Rows) (clk : Nat), σ = ⟨fa [(4, Po x.l), (5, .ptr 18 v18 0 0), (7, Po y.l)], rows, clk⟩ ∧ rows 16 = some ⟨ver, 31, 1, emap zp L⟩ ∧ rows 18 = some ⟨v18, e18, 1, [[.own 16 ver 0 (i + 1)]]⟩ ∧ L.length = i + 1 ∧
  L ++ sL k x y = C ∧ k = ZX.N y ∧ BZ s n x ∧ BZ s n y ∧ xU 4500000000 n s x y ∧ i + ZX.N y ≤ 20) (ZX.N g0) ?_ ?_
 ·exact ⟨_, .refl, [f], f, g0, 0, _, _, _, s + 5, _, _, rfl, by simp [emap]; (first | exact rfl | exact ⟨rfl, rfl⟩), by simp; (first | exact rfl | exact ⟨rfl, rfl⟩ | exact ⟨rfl, rfl, rfl⟩), rfl, hc.symm, rfl, b1, b2, hp, by have := b2.N; omega⟩
 rintro k _ ⟨L, x, y, i, ver, v18, e18, s, rows, clk, rfl, aa5, aj9, hL, NW, rfl, bx, qS, hp, hiN⟩
 have hs := hp.le
 have hlx := bx.len
 have hly := qS.len
 have hLl : (emap zp L).length = i + 1 := by simp [emap, hL]
 refine W.seq ?_
 refine W.sr ?_; simp (disch := omega) [gw]; refine W.lx [4, 5, 7, 27] ?_; simp
 refine W.cond ⟨_, rfl, fun h => ?_, fun h => ?_⟩
 ·have hy : y ≠ 0 := ZX.aD.2 (by show 0 < y.l.length; simp at h; omega)
  have hR := JP (x.l.map rC) (y.l.map rC) (bx.B2 (by omega) (by omega)) (qS.B2 (by omega) (by omega)) (s := s) (s' := s) (N := n) (by rw [bP]; exact G6 bx) (by rw [bP]; exact G6 qS) (by
   have : n * (s + n + 1) ≤ 20 * 4500000000 := Nat.mul_le_mul hn hs
   omega)
  rw [wX, wX, if_neg (tX hy), ← iA, ← iA] at hR
  have br := RF bx qS hy
  have agY : (ZX.N x + 1 - ZX.N y) * (s + n + 1) ≤ 22 * 4500000000 := Nat.mul_le_mul (by have : ZX.N x = x.l.length := rfl; omega) (by omega)
  have hrz : JN x.l y.l = (oS (rz x y)).l := by
   obtain ⟨TY, hN, _⟩ := qV (a := x) hy
   obtain ⟨m, q, hm, e⟩ := aaO y.c (ZX.aD.1 hy) (x.l.length + 1) x.l x.c (by omega)
   rw [← TY] at e
   exact aaP x.c y.c (ZX.aD.1 hy) (rz x y).c hN hm e
  rw [hrz] at hR
  have hNg := DJ (x := (oS (rz x y)).l) (PB.of (G6 (iC br)) (by omega) (by omega))
  have e3 : fJ (oS (rz x y)).l = (nx x y).l := rfl
  rw [e3] at hNg
  have JM := U4 (a := x) hy
  have hp2 := hp.step JM
  have bn := RG bx qS hy
  have hch : L ++ [y] ++ sL (ZX.N (nx x y)) y (nx x y) = C := by
   rw [← NW]
   obtain ⟨j, hj⟩ : ∃ j, ZX.N y = j + 1 := ⟨ZX.N y - 1, by have := ZX.aD.1 hy; have : ZX.N y = y.l.length := rfl; omega⟩
   rw [hj, sL, if_neg (by omega), AM (k := j) (j := ZX.N (nx x y)) (by omega) (Nat.le_refl _)]
   simp
  generalize (oS (rz x y)).l = pl at *
  generalize hnx : nx x y = nn at *
  refine W.skip ?_
  refine W.block ?_
  refine W.sr ?_
  simp (disch := omega) [gw, aa5, aj9, hLl]
  refine W.lx [4, 5, 7] ?_; simp
  refine W.sr ?_
  simp (disch := omega) [gw]
  refine aA hR ?_
  simp (disch := omega) [gw]
  refine W.lx [5, 7, 8] ?_; simp
  refine W.b8 (fun K hK => ?_)
  simp (disch := omega) [gw]
  refine aA hNg ?_
  simp (disch := omega) [gw]
  refine hK _ ⟨ZX.N nn, _, aC _ [4, 5, 7], JM, L ++ [y], y, nn, i + 1, _, v18, e18, _, _, _, rfl, by simp; first | exact rfl | skip, by simp; first | exact rfl | skip, by simp [hL], hch, rfl, qS.mono (by omega) (Nat.le_refl _), bn, hp2, by omega⟩
 ·have hy : y = 0 := by
   refine Classical.byContradiction fun h0 => ?_
   have h1 := ZX.aD.1 h0
   have h2 : ZX.N y = y.l.length := rfl
   simp at h; rw [h2, h] at h1; simp at h1
  subst hy
  rw [jG, List.append_nil] at NW
  subst NW
  have uR : List.take (i + 1) L = L := List.take_of_length_le (by omega)
  refine W.exit ?_; simp only [pX, if_true, if_false, reduceIte, Nat.reduceEqDiff]
  refine W.E8 16 (by rw [aa5]; simp) (fun K hK => ?_)
  simp [aa5]
  refine hK _ ?_
  have apU : BV rows 16 18 = some ⟨v18, e18, 1, [[aJ zp L]]⟩ := by
   simp [aj9, aa5, hLl, uR]
  clear aa5 aj9
  generalize BV rows 16 = tM at *
  refine W.sr ?_; simp (disch := omega) [gw]; refine W.lx [2, 3] ?_; simp
  refine W.ret ?_
  simp [go, apU]
theorem aa6 {n : Nat} (hn : n ≤ 20) : ∀ (j s : Nat) (x g : ZX), BZ s n x → BZ s n g → xU 4500000000 n s x g → ∀ p ∈ sL j x g, BZ 4500000000 n p
 | 0, _, _, _, _, _, _, p, hp => by cases hp
 | j + 1, s, x, g, bx, bg, hP, p, hp => by
  have hs := hP.le
  rw [sL] at hp
  split at hp
  ·cases hp
  ·rename_i h0
   have h0' : g ≠ 0 := ZX.aD.2 (Nat.pos_of_ne_zero h0)
   rcases List.mem_cons.1 hp with rfl | hp
   ·exact bg.mono (by omega) (Nat.le_refl _)
   ·exact aa6 hn j _ g (nx x g) (bg.mono (by omega) (Nat.le_refl _)) (RG bx bg h0') (hP.step (U4 h0')) p hp
theorem RU : ∀ (j : Nat) (x g : ZX), (sL j x g).length ≤ j
 | 0, _, _ => Nat.le_refl _
 | j + 1, x, g => by
  rw [sL]
  split
  ·simp
  ·simp only [List.length_cons]; have := RU j g (nx x g); omega
theorem Ch.all {s n : Nat} {f : ZX} (h : Ch s n f) : (∀ p ∈ bC f, BZ 4500000000 n p) ∧ (bC f).length ≤ 21 := by
 have hp := h.pot
 have hs := hp.le
 have hn := h.hn
 refine ⟨fun p hq => ?_, ?_⟩
 ·rcases List.mem_cons.1 hq with rfl | hq
  ·exact h.bz.mono (by omega) (Nat.le_refl _)
  ·exact aa6 hn _ _ _ _ (h.bz.mono (by omega) (Nat.le_refl _)) (iC (h.bz.bK (by omega))) hp p hq
 ·have := RU (ZX.N f) f (oS (bK f))
  have h2 := h.bz.N
  show (f :: sL (ZX.N f) f (oS (bK f))).length ≤ 21
  simp only [List.length_cons]; omega
theorem aeH {a u v : ZX} {c : Int} (na : Nf a) (hc : c ≠ 0) (h : u * a + v * bK a = K c) : sq a = a := apS na.ne na fun p hp => by
 have hm : mu p a ≤ 1 := by
  rcases Nat.lt_or_ge (mu p a) 2 with h1 | h1
  ·omega
  ·exfalso
   obtain ⟨m, hmm⟩ : ∃ m, mu p a = m + 1 := ⟨mu p a - 1, by omega⟩
   obtain ⟨_, h2⟩ := vE hp na.ne hmm
   have d1 : dv p a := by have := (lL hp na.ne).1 (show 1 ≤ mu p a by omega); rwa [show p ^ 1 = p by rw [pow_succ', dD]; grind] at this
   have hd : bK a ≠ 0 := fun h0 => by rw [h0] at h2; have : mu p (0 : ZX) = m := h2; have h9 := (vE hp na.ne hmm).1; exact h9 h0
   have d2 : dv p (bK a) := by have := (lL hp hd).1 (show 1 ≤ mu p (bK a) by omega); rwa [show p ^ 1 = p by rw [pow_succ', dD]; grind] at this
   have d3 : dv p (K c) := by rw [← h]; exact (d1.mul_left u).add (d2.mul_left v)
   have h3 := d3.rF (oV hc)
   have h4 := hp.deg
   rw [N_K hc] at h3
   omega
 omega
theorem eE (q : Rat) : cO q.num q.den = q := by
 rw [cO, if_neg (by have := q.den_nz; omega)]
 exact Rat.num_divInt_den q
theorem aa7 (n d : Int) : (sml n d).num.natAbs ≤ 30 ∧ ((sml n d).den : Int).natAbs ≤ 6 := by
 have h1 := Int.emod_nonneg n (show (61 : Int) ≠ 0 by decide)
 have h2 := Int.emod_lt_of_pos n (show (0 : Int) < 61 by decide)
 have h3 := Int.emod_nonneg d (show (6 : Int) ≠ 0 by decide)
 have h4 := Int.emod_lt_of_pos d (show (0 : Int) < 6 by decide)
 unfold sml
 rw [n3 _ _ (by omega), n4 _ _ (by omega)]
 rw [if_neg (by omega), if_neg (by omega)]
 refine ⟨Nat.le_trans (Int.natAbs_ediv_le_natAbs _ _) (by omega), Nat.le_trans (Int.natAbs_ediv_le_natAbs _ _) (by omega)⟩
structure SQ (u : Nat) (q : Rat) : Prop where
 n2 : sz 2 q.num ≤ u
 d2 : sz 2 (q.den : Int) ≤ u
 hu : 1 ≤ u
theorem SQ.nL {u : Nat} {q : Rat} (h : SQ u q) : sz LL q.num ≤ u := Nat.le_trans (AH _) h.n2
theorem SQ.dL {u : Nat} {q : Rat} (h : SQ u q) : sz LL (q.den : Int) ≤ u := Nat.le_trans (AH _) h.d2
theorem aka (n d : Int) : SQ 5 (sml n d) := by
 obtain ⟨h1, h2⟩ := aa7 n d
 exact ⟨p8 (by omega), p8 (by omega), by decide⟩
section
variable {c : List ZX} {n u : Nat} {q : Rat} (hb : ∀ p ∈ c, BZ 4500000000 n p) (hn : n ≤ 20) (hl : c.length ≤ 21) (hq : SQ u q) (hu : u ≤ 1000000000)
include hb hn hl hq hu
theorem aa8 : aI env.P 129 [aJ zq c, R2 q.num q.den] (.int .i64 (vr (mI c q.num q.den))) := KH (by omega) fun p hp => by
 have hmul : n * (u + 1) ≤ 20 * (u + 1) := Nat.mul_le_mul_right _ hn
 exact qX (hb p hp) hq.n2 hq.d2 hq.hu (by omega) (by show _ < 137438953472; omega)
theorem aa9 : aI env.P 183 [CH c, T2 q.num q.den] (.int .i64 (vr (mI c q.num q.den))) := OH (by omega) fun p hp => by
 have hmul : n * (u + 1) ≤ 20 * (u + 1) := Nat.mul_le_mul_right _ hn
 exact vH (G6 (hb p hp)) p.c hq.nL hq.dL hq.hu (by omega) (by omega) (by omega) (eE q) ⟨hq.nL, hq.dL⟩
end
theorem pbs {c : List ZX} {n : Nat} (hb : ∀ p ∈ c, BZ 4500000000 n p) (hn : n ≤ 20) : ∀ p ∈ c, PB p.l := fun p hp => (hb p hp).pb (by decide) (by omega)
theorem aeI : (PV.ag [.bool false, .sl [], .bool false, .sl []]) = T2 0 0 := rfl
structure MK (a : ZX) (c : List ZX) : Prop where
 to : aI env.P 22 [PI a.l] (Po a.l)
 new : aI env.P 82 [Po a.l] (.eP [CH c, .int .i64 0])
 chain : aI env.P 57 [PI a.l] (aJ zq c)
 bd : ∀ p ∈ c, BZ 4500000000 20 p
 len : c.length ≤ 21
theorem MK.of {s n : Nat} {a : ZX} (h : qT s n a) (h0 : a ≠ 0) (uB : 1 ≤ n) (h1 : 1 ≤ s) : MK a (bC (sq a)) := by
 have hC := h.ch h0 uB
 obtain ⟨hb, hl⟩ := hC.all
 have hqb := h.oR
 have hs : s < 1099511627776 := by unfold qb at hqb; omega
 have hn := h.hn
 exact ⟨GG h.bz hs (by omega), RS (AK h) hC (aaY h0).1, AQ h h0 uB h1, fun p hp => (hb p hp).mono (Nat.le_refl _) hn, hl⟩
end Go.Proofs.YtbbjgncblhfegaaGreat
