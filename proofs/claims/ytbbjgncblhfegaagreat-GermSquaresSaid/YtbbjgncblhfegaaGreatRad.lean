import Derived.Test.YtbbjgncblhfegaaGreatRac
set_option linter.unusedSimpArgs false
set_option linter.unusedVariables false
namespace Pm
open Go Go.RowKit
def emap {α : Type} (g : α → List PV) (l : List α) : List (List PV) := l.map g
def aI {α : Type} (g : α → List PV) (l : List α) : PV := .sl (emap g l)
def nth {α : Type} [Inhabited α] (l : List α) (i : Nat) : α := l[i]?.getD default
def Enc {α : Type} (g : α → List PV) (n : Nat) : Prop := ∀ x, (g x).length = n
def ams {α : Type} (g : α → List PV) : Prop := ∀ x, (g x).all bW = true
def bJ (o : Option Row) (ver : Nat) (K : Row → Prop) : Prop := ∃ r, o = some r ∧ r.ver = ver ∧ K r
@[congr] theorem abJ {o o' : Option Row} {ver : Nat} {K : Row → Prop} (h : o = o') : bJ o ver K = bJ o' ver K := by rw [h]
@[simp] theorem acx {r : Row} {ver : Nat} {K : Row → Prop} : bJ (some r) ver K = aH (r.ver = ver) (K r) := by simp [bJ, aH]
def CL (els : List (List PV)) (i : Nat) (K : List PV → Prop) : Prop := ∃ el, els[i]? = some el ∧ K el
@[congr] theorem ake {l l' : List (List PV)} {i i' : Nat} {K : List PV → Prop} (h : l = l') (hi : i = i') : CL l i K = CL l' i' K := by rw [h, hi]
@[simp] theorem HJ {α : Type} [Inhabited α] {g : α → List PV} {l : List α} {i : Nat} {K : List PV → Prop} : CL (emap g l) i K = aH (i < l.length) (K (g (nth l i))) := by
 simp only [CL, emap, aH, nth]
 apply propext
 constructor
 ·rintro ⟨el, h1, h2⟩
  simp at h1
  obtain ⟨x, h1, rfl⟩ := h1
  have := (List.getElem?_eq_some_iff.1 h1).1
  rw [h1]
  exact ⟨this, h2⟩
 ·rintro ⟨h1, h2⟩
  rw [List.getElem?_eq_getElem h1] at h2
  exact ⟨g l[i], by simp [h1], h2⟩
@[simp] theorem amt {e : List PV} {es : List (List PV)} {K : List PV → Prop} : CL (e :: es) 0 K = go (K e) := by show _ = K e; simp [CL]
@[simp] theorem amu {e : List PV} {es : List (List PV)} {i : Nat} {K : List PV → Prop} : CL (e :: es) (i + 1) K = CL es i K := by simp [CL]
def kC {α : Type} (l : List α) (i : Nat) : Option α := l[i]?
@[simp] theorem akf {α : Type} {x : α} {l : List α} : kC (x :: l) 0 = some x := rfl
@[simp] theorem akg {α : Type} {x : α} {l : List α} {n : Nat} : kC (x :: l) (n + 1) = kC l n := rfl
def eJ {α : Type} (o : Option α) (K : α → Prop) : Prop := ∃ v, o = some v ∧ K v
@[congr] theorem ahw {α : Type} {o o' : Option α} {K : α → Prop} (h : o = o') : eJ o K = eJ o' K := by rw [h]
@[simp] theorem akh {α : Type} {x : α} {K : α → Prop} : eJ (some x) K = go (K x) := by show _ = K x; simp [eJ]
def vW (ti : TI) (l : List PV) (j : Nat) (K : PV → Prop) : Prop := if ti.agg = true then aH (j + ti.size ≤ l.length) (K (.ag ((l.drop j).take ti.size))) else eJ (kC l j) K
@[congr] theorem aki {t t' : TI} {l l' : List PV} {j : Nat} {K : PV → Prop} (h1 : t = t') (h2 : l = l') : vW t l j K = vW t' l' j K := by rw [h1, h2]
@[simp] theorem ap0 {k : IntKind} {l : List PV} {j : Nat} {K : PV → Prop} : vW (.int k) l j K = eJ (kC l j) K := by simp [vW, TI.agg]
@[simp] theorem amv {l : List PV} {j : Nat} {K : PV → Prop} : vW .bool l j K = eJ (kC l j) K := by simp [vW, TI.agg]
@[simp] theorem ap1 {l : List PV} {j : Nat} {K : PV → Prop} : vW .str l j K = eJ (kC l j) K := by simp [vW, TI.agg]
@[simp] theorem akj {e n b : Nat} {z : List PV} {l : List PV} {j : Nat} {K : PV → Prop} : vW (.slice e n b z) l j K = eJ (kC l j) K := by simp [vW, TI.agg]
@[simp] theorem ap2 {e m n : Nat} {z : List PV} {l : List PV} {j : Nat} {K : PV → Prop} : vW (.arr e m n z) l j K = aH (j + z.length ≤ l.length) (K (.ag ((l.drop j).take z.length))) := by simp [vW, TI.agg, TI.size, TI.zero]
@[simp] theorem amw {l : List PV} {j : Nat} {K : PV → Prop} : vW .yD l j K = eJ (kC l j) K := by simp [vW, TI.agg]
@[simp] theorem ap3 {l : List PV} {j : Nat} {K : PV → Prop} : vW .fnT l j K = eJ (kC l j) K := by simp [vW, TI.agg]
@[simp] theorem ahx {fs : List (Nat × Nat × Bool)} {z : List PV} {l : List PV} {j : Nat} {K : PV → Prop} : vW (.struct fs z) l j K = aH (j + z.length ≤ l.length) (K (.ag ((l.drop j).take z.length))) := by simp [vW, TI.agg, TI.size, TI.zero]
def jO (E : Env) (t : TypeId) (rows : Rows) (p : PV) (K : PV → Prop) : Prop :=
 aH ((E.ty t).known = true) (match p with
 | .rd l => vW (E.ty t) l 0 K
 | .ptr id ver i j => bJ (rows id) ver fun r => CL r.els i fun el => vW (E.ty t) el j K
 | _ => False)
@[congr] theorem acy {E : Env} {t : TypeId} {rows : Rows} {p p' : PV} {K : PV → Prop} (h : p = p') : jO E t rows p K = jO E t rows p' K := by rw [h]
@[simp] theorem akk {E : Env} {t : TypeId} {rows : Rows} {l : List PV} {K : PV → Prop} : jO E t rows (.rd l) K = aH ((E.ty t).known = true) (vW (E.ty t) l 0 K) := rfl
@[simp] theorem ahy {E : Env} {t : TypeId} {rows : Rows} {id ver i j : Nat} {K : PV → Prop} : jO E t rows (.ptr id ver i j) K = aH ((E.ty t).known = true) (bJ (rows id) ver fun r => CL r.els i fun el => vW (E.ty t) el j K) := rfl
theorem HK {ti : TI} {l : List PV} {j : Nat} {K : PV → Prop} : aU (fun v => if ti.agg = true then j + ti.size ≤ l.length ∧ v = .ag ((l.drop j).take ti.size) else l[j]? = some v) K = vW ti l j K := by
 simp only [vW, eJ]
 split
 ·rw [iK, iZ]
 ·rfl
theorem rQ {E : Env} {t : TypeId} {rows : Rows} {p : PV} {K : PV → Prop} : aU (fun v => qU E t rows p v) K = jO E t rows p K := by
 simp only [qU, jO]
 rw [iK]
 congr 1
 cases p with
 | rd l => dsimp only; rw [← HK]; simp [go]
 | ptr id ver i j =>
  simp only [bJ, CL, ← HK]
  apply propext; simp only [aU]
  constructor
  ·rintro ⟨v, ⟨r, h1, h2, el, h3, h4⟩, h5⟩; exact ⟨r, h1, h2, el, h3, v, h4, h5⟩
  ·rintro ⟨r, h1, h2, el, h3, v, h4, h5⟩; exact ⟨v, ⟨r, h1, h2, el, h3, h4⟩, h5⟩
 | _ => simp [aU]
def i0 (ti : TI) (i : Nat) (x : PV) (K : PV → Prop) : Prop :=
 match ti with
 | .struct fs _ => eJ (kC fs i) fun p => match x with
  | .ag l => if p.2.2 = true then K (.ag ((l.drop p.1).take p.2.1)) else eJ (kC l p.1) K
  | _ => False
 | _ => False
@[congr] theorem abK {t t' : TI} {i : Nat} {x x' : PV} {K : PV → Prop} (h : t = t') (h2 : x = x') : i0 t i x K = i0 t' i x' K := by rw [h, h2]
def EO (p : Nat × Nat × Bool) (l : List PV) (K : PV → Prop) : Prop := if p.2.2 = true then K (.ag ((l.drop p.1).take p.2.1)) else eJ (kC l p.1) K
@[simp] theorem akl {o n : Nat} {l : List PV} {K : PV → Prop} : EO (o, n, true) l K = go (K (.ag ((l.drop o).take n))) := by show _ = K _; simp [EO]
@[simp] theorem ahz {o n : Nat} {l : List PV} {K : PV → Prop} : EO (o, n, false) l K = eJ (kC l o) K := by simp [EO]
@[congr] theorem ahA {p p' : Nat × Nat × Bool} {l l' : List PV} {K : PV → Prop} (h : p = p') (h2 : l = l') : EO p l K = EO p' l' K := by rw [h, h2]
@[simp] theorem ahB {fs : List (Nat × Nat × Bool)} {z : List PV} {i : Nat} {l : List PV} {K : PV → Prop} : i0 (.struct fs z) i (.ag l) K = eJ (kC fs i) fun p => EO p l K := rfl
theorem vX {E : Env} {t : TypeId} {i : Nat} {x : PV} {K : PV → Prop} : aU (fun v => rI E t i x v) K = i0 (E.ty t) i x K := by
 simp only [rI, i0]
 cases E.ty t with
 | struct fs z =>
  simp only [eJ]
  apply propext; simp only [aU]
  cases x with
  | ag l =>
   simp only
   constructor
   ·rintro ⟨v, ⟨o, n, b, h1, h2⟩, h3⟩
    refine ⟨_, h1, ?_⟩
    simp only
    split at h2
    ·rename_i hb; rw [if_pos hb, ← h2]; exact h3
    ·rename_i hb; rw [if_neg hb]; exact ⟨v, h2, h3⟩
   ·rintro ⟨⟨o, n, b⟩, h1, h2⟩
    simp only at h2
    split at h2
    ·rename_i hb; exact ⟨_, ⟨o, n, b, h1, by rw [if_pos hb]⟩, h2⟩
    ·rename_i hb; obtain ⟨v, h3, h4⟩ := h2; exact ⟨v, ⟨o, n, b, h1, by rw [if_neg hb]; exact h3⟩, h4⟩
  | _ => simp
 | _ => simp [aU]
def cY (ti : TI) (rows : Rows) (i : Nat) (x : PV) (K : PV → Prop) : Prop :=
 match ti with
 | .struct fs _ => eJ (kC fs i) fun p => match x with
  | .rd l => aH (p.1 ≤ l.length) (K (.rd (l.drop p.1)))
  | .ptr id ver a j => bJ (rows id) ver fun _ => K (.ptr id ver a (j + p.1))
  | _ => False
 | _ => False
@[congr] theorem PR {t t' : TI} {rows : Rows} {i : Nat} {x x' : PV} {K : PV → Prop} (h : t = t') (h2 : x = x') : cY t rows i x K = cY t' rows i x' K := by rw [h, h2]
@[simp] theorem XR {fs : List (Nat × Nat × Bool)} {z : List PV} {rows : Rows} {i : Nat} {l : List PV} {K : PV → Prop} : cY (.struct fs z) rows i (.rd l) K = eJ (kC fs i) fun p => aH (p.1 ≤ l.length) (K (.rd (l.drop p.1))) := rfl
@[simp] theorem VT {fs : List (Nat × Nat × Bool)} {z : List PV} {rows : Rows} {i id ver a j : Nat} {K : PV → Prop} : cY (.struct fs z) rows i (.ptr id ver a j) K = eJ (kC fs i) fun p => bJ (rows id) ver fun _ => K (.ptr id ver a (j + p.1)) := rfl
theorem oB {E : Env} {t : TypeId} {rows : Rows} {i : Nat} {x : PV} {K : PV → Prop} : aU (fun v => eF E t rows i x v) K = cY (E.ty t) rows i x K := by
 simp only [eF, cY]
 cases E.ty t with
 | struct fs z =>
  simp only [eJ]
  apply propext; simp only [aU]
  cases x with
  | rd l =>
   simp only [aH]
   constructor
   ·rintro ⟨v, ⟨o, n, b, h1, h2, rfl⟩, h3⟩; exact ⟨_, h1, h2, h3⟩
   ·rintro ⟨⟨o, n, b⟩, h1, h2, h3⟩; exact ⟨_, ⟨o, n, b, h1, h2, rfl⟩, h3⟩
  | ptr id ver a j =>
   simp only [bJ]
   constructor
   ·rintro ⟨v, ⟨o, n, b, h1, ⟨r, h2, h3⟩, rfl⟩, h4⟩; exact ⟨_, h1, r, h2, h3, h4⟩
   ·rintro ⟨⟨o, n, b⟩, h1, r, h2, h3, h4⟩; exact ⟨_, ⟨o, n, b, h1, ⟨r, h2, h3⟩, rfl⟩, h4⟩
  | _ => simp
 | _ => simp [aU]
def bB (n : Nat) (l : List (List PV)) : Prop := ∀ e ∈ l, e.length = n
@[simp] theorem cZ {α : Type} {g : α → List PV} {n : Nat} {l : List α} : (Enc g n) → bB n (emap g l) = True := by
 intro h
 simp only [bB, emap, List.mem_map, eq_iff_iff, iff_true]
 rintro e ⟨x, _, rfl⟩
 exact h x
@[simp] theorem ahC {n : Nat} : bB n [] = True := by simp [bB]
@[simp] theorem afe {n : Nat} {e : List PV} {l : List (List PV)} : bB n (e :: l) = (e.length = n ∧ bB n l) := by simp [bB]
def bS (ti : TI) (rows : Rows) (x ix : PV) (K : PV → Prop) : Prop :=
 match ti, ix with
 | .slice _ n _ _, .int _ k => aH (0 ≤ k) (match x with
  | .sl l => aH (bB n l) (CL l k.toNat fun el => K (.rd el))
  | .iV l => aH (bB n l) (CL l k.toNat fun el => K (.rd el))
  | .own id ver off len => bJ (rows id) ver fun r => aH (r.size = n ∧ k.toNat < len) (K (.ptr id ver (off + k.toNat) 0))
  | _ => False)
 | .arr _ m n _, .int _ k => aH (0 ≤ k ∧ k.toNat < m) (match x with
  | .rd l => aH (k.toNat * n ≤ l.length) (K (.rd (l.drop (k.toNat * n))))
  | .ptr id ver a j => bJ (rows id) ver fun _ => K (.ptr id ver a (j + k.toNat * n))
  | _ => False)
 | _, _ => False
@[congr] theorem PT {t t' : TI} {rows : Rows} {x x' y y' : PV} {K : PV → Prop} (h : t = t') (h2 : x = x') (h3 : y = y') : bS t rows x y K = bS t' rows x' y' K := by rw [h, h2, h3]
section
variable {α : Type} [Inhabited α] {g : α → List PV} {l : List α} {e n b : Nat} {z : List PV} {rows : Rows} {kk : IntKind} {k : Int} {K : PV → Prop} {els : List (List PV)} {id ver off len : Nat}
@[simp] theorem VU : bS (.slice e n b z) rows (aI g l) (.int kk k) K = aH (0 ≤ k ∧ k.toNat < l.length) (aH (bB n (emap g l)) (K (.rd (g (nth l k.toNat))))) := by
 simp only [bS, aI, HJ, aH, and_assoc]
 apply propext
 constructor
 ·rintro ⟨h1, h2, h3, h4⟩; exact ⟨h1, h3, h2, h4⟩
 ·rintro ⟨h1, h2, h3, h4⟩; exact ⟨h1, h3, h2, h4⟩
@[simp] theorem XS : bS (.slice e n b z) rows (.sl els) (.int kk k) K = aH (0 ≤ k) (aH (bB n els) (CL els k.toNat fun el => K (.rd el))) := rfl
@[simp] theorem VV : bS (.slice e n b z) rows (.iV els) (.int kk k) K = aH (0 ≤ k) (aH (bB n els) (CL els k.toNat fun el => K (.rd el))) := rfl
@[simp] theorem VW {m : Nat} {l : List PV} : bS (.arr e m n z) rows (.rd l) (.int kk k) K = aH (0 ≤ k ∧ k.toNat < m) (aH (k.toNat * n ≤ l.length) (K (.rd (l.drop (k.toNat * n))))) := rfl
@[simp] theorem TA {m a j : Nat} : bS (.arr e m n z) rows (.ptr id ver a j) (.int kk k) K = aH (0 ≤ k ∧ k.toNat < m) (bJ (rows id) ver fun _ => K (.ptr id ver a (j + k.toNat * n))) := rfl
@[simp] theorem VX : bS (.slice e n b z) rows (.own id ver off len) (.int kk k) K = aH (0 ≤ k) (bJ (rows id) ver fun r => aH (r.size = n ∧ k.toNat < len) (K (.ptr id ver (off + k.toNat) 0))) := rfl
end
theorem oC {E : Env} {t : TypeId} {rows : Rows} {x ix : PV} {K : PV → Prop} : aU (fun v => eG E t rows x ix v) K = bS (E.ty t) rows x ix K := by
 simp only [eG, bS]
 cases E.ty t with
 | slice e n b z =>
  cases ix with
  | int kk k =>
   simp only
   rw [iK]
   congr 1
   cases x with
   | sl l =>
    simp only [aH, CL, bB]
    apply propext; simp only [aU]
    constructor
    ·rintro ⟨v, ⟨el, h1, h2, rfl⟩, h4⟩; exact ⟨h2, el, h1, h4⟩
    ·rintro ⟨h2, el, h1, h4⟩; exact ⟨_, ⟨el, h1, h2, rfl⟩, h4⟩
   | iV l =>
    simp only [aH, CL, bB]
    apply propext; simp only [aU]
    constructor
    ·rintro ⟨v, ⟨el, h1, h2, rfl⟩, h4⟩; exact ⟨h2, el, h1, h4⟩
    ·rintro ⟨h2, el, h1, h4⟩; exact ⟨_, ⟨el, h1, h2, rfl⟩, h4⟩
   | own id ver off len =>
    simp only [aH, bJ]
    apply propext; simp only [aU]
    constructor
    ·rintro ⟨v, ⟨r, h1, h2, h3, h4, rfl⟩, h5⟩; exact ⟨r, h1, h2, ⟨h3, h4⟩, h5⟩
    ·rintro ⟨r, h1, h2, ⟨h3, h4⟩, h5⟩; exact ⟨_, ⟨r, h1, h2, h3, h4, rfl⟩, h5⟩
   | _ => simp [aU]
  | _ => simp [aU]
 | arr e m n z =>
  cases ix with
  | int kk k =>
   simp only
   rw [iK]
   congr 1
   cases x with
   | rd l =>
    simp only
    rw [iK, iZ]
   | ptr id ver a j =>
    simp only [bJ]
    apply propext; simp only [aU]
    constructor
    ·rintro ⟨v, ⟨⟨r, h1, h2⟩, rfl⟩, h3⟩; exact ⟨r, h1, h2, h3⟩
    ·rintro ⟨r, h1, h2, h3⟩; exact ⟨_, ⟨⟨r, h1, h2⟩, rfl⟩, h3⟩
   | _ => simp [aU]
  | _ => simp [aU]
 | _ => simp [aU]
def vY (d : Nat) (o : Option PV) (K : Nat → Prop) : Prop :=
 match o with
 | none => K d
 | some (.int _ k) => aH (0 ≤ k) (K k.toNat)
 | some _ => False
@[congr] theorem akm {d d' : Nat} {o o' : Option PV} {K : Nat → Prop} (h : d = d') (h2 : o = o') : vY d o K = vY d' o' K := by rw [h, h2]
@[simp] theorem amx {d : Nat} {K : Nat → Prop} : vY d none K = go (K d) := rfl
@[simp] theorem amy {d : Nat} {kk : IntKind} {k : Int} {K : Nat → Prop} : vY d (some (.int kk k)) K = aH (0 ≤ k) (K k.toNat) := rfl
theorem ML {d : Nat} {o : Option PV} {K : Nat → Prop} : vY d o K ↔ ∃ n, sK d o n ∧ K n := by
 cases o with
 | none => simp [vY, sK]
 | some p =>
  cases p with
  | int kk k =>
   simp only [vY, sK, aH]
   constructor
   ·rintro ⟨h1, h2⟩; exact ⟨_, ⟨h1, rfl⟩, h2⟩
   ·rintro ⟨n, ⟨h1, rfl⟩, h2⟩; exact ⟨h1, h2⟩
  | _ => simp [vY, sK]
def TB {α : Type} (mk mkx : List α → PV) (n : Nat) (l : List α) (ok : Prop) (lo hi mx : Option PV) (K : PV → Prop) : Prop :=
 vY 0 lo fun a => vY l.length hi fun b => aH (a ≤ b ∧ b ≤ l.length) (aH ok (match mx with
  | none => K (mk ((l.take b).drop a))
  | some m => vY 0 (some m) fun c => aH (b = c ∧ hi.isSome = true) (K (mkx ((l.take b).drop a)))))
def eN (ti : TI) (rows : Rows) (x : PV) (lo hi mx : Option PV) (K : PV → Prop) : Prop :=
 match ti with
 | .slice _ n _ _ =>
  match x with
  | .nil => vY 0 lo fun a => vY 0 hi fun b => aH (a = 0 ∧ b = 0 ∧ mx.isNone = true) (K .nil)
  | .sl l => TB .sl .iV n l (bB n l) lo hi mx K
  | .iV l => TB .sl .iV n l (bB n l) lo hi mx K
  | .own id ver off len => bJ (rows id) ver fun r => aH (r.size = n) (vY 0 lo fun a => vY len hi fun b => aH (a ≤ b ∧ b ≤ len ∧ mx.isNone = true) (K (.own id ver (off + a) (b - a))))
  | _ => False
 | _ => False
@[congr] theorem abL {t t' : TI} {rows : Rows} {x x' : PV} {lo KY hi kQ mx mx' : Option PV} {K : PV → Prop} (h : t = t') (h2 : x = x') (h3 : lo = KY) (h4 : hi = kQ) (h5 : mx = mx') : eN t rows x lo hi mx K = eN t' rows x' KY kQ mx' K := by rw [h, h2, h3, h4, h5]
section
variable {α : Type} {g : α → List PV} {l : List α} {e n b : Nat} {z : List PV} {rows : Rows} {lo hi mx : Option PV} {K : PV → Prop} {els : List (List PV)} {id ver off len : Nat}
theorem HL {a b : Nat} : ((emap g l).take b).drop a = emap g ((l.take b).drop a) := by simp [emap]
@[simp] theorem aff : eN (.slice e n b z) rows (aI g l) lo hi none K = vY 0 lo fun a => vY l.length hi fun b => aH (a ≤ b ∧ b ≤ l.length) (aH (bB n (emap g l)) (K (aI g ((l.take b).drop a)))) := by
 simp only [eN, aI, TB, HL]
 simp [emap]
theorem EP {m : PV} : eN (.slice e n b z) rows (aI g l) lo hi (some m) K = vY 0 lo fun a => vY l.length hi fun b => aH (a ≤ b ∧ b ≤ l.length) (aH (bB n (emap g l)) (vY 0 (some m) fun c => aH (b = c ∧ hi.isSome = true) (K (.iV (emap g ((l.take b).drop a)))))) := by
 simp only [eN, aI, TB, HL]
 simp [emap]
@[simp] theorem afg : eN (.slice e n b z) rows .nil lo hi mx K = vY 0 lo fun a => vY 0 hi fun b => aH (a = 0 ∧ b = 0 ∧ mx.isNone = true) (K .nil) := rfl
@[simp] theorem afh : eN (.slice e n b z) rows (.own id ver off len) lo hi mx K = bJ (rows id) ver fun r => aH (r.size = n) (vY 0 lo fun a => vY len hi fun b => aH (a ≤ b ∧ b ≤ len ∧ mx.isNone = true) (K (.own id ver (off + a) (b - a)))) := rfl
end
theorem PU {l : List (List PV)} {n : Nat} {lo hi mx : Option PV} {K : PV → Prop} : (∃ v, (∃ a b, sK 0 lo a ∧ sK l.length hi b ∧ a ≤ b ∧ b ≤ l.length ∧ (∀ e ∈ l, e.length = n) ∧ K5 l a b hi mx v) ∧ K v) ↔ TB .sl .iV n l (bB n l) lo hi mx K := by
 simp only [TB, ML, aH, bB, K5]
 constructor
 ·rintro ⟨v, ⟨a, b, h1, h2, h3, h4, h5, h6⟩, h7⟩
  refine ⟨a, h1, b, h2, ⟨h3, h4⟩, h5, ?_⟩
  cases mx with
  | none => simp only at h6 ⊢; rw [← h6]; exact h7
  | some m => obtain ⟨c, q1, q2, q3, rfl⟩ := h6; exact ⟨c, q1, ⟨q2, q3⟩, h7⟩
 ·rintro ⟨a, h1, b, h2, ⟨h3, h4⟩, h5, h6⟩
  cases mx with
  | none => exact ⟨_, ⟨a, b, h1, h2, h3, h4, h5, rfl⟩, h6⟩
  | some m => obtain ⟨c, q1, ⟨q2, q3⟩, h7⟩ := h6; exact ⟨_, ⟨a, b, h1, h2, h3, h4, h5, c, q1, q2, q3, rfl⟩, h7⟩
theorem vZ {E : Env} {t : TypeId} {rows : Rows} {x : PV} {lo hi mx : Option PV} {K : PV → Prop} : aU (fun v => mE E t rows x lo hi mx v) K = eN (E.ty t) rows x lo hi mx K := by
 simp only [mE, eN]
 cases E.ty t with
 | slice e n b z =>
  cases x with
  | sl l => exact propext PU
  | iV l => exact propext PU
  | nil =>
   simp only [ML, aH]
   apply propext; simp only [aU]
   constructor
   ·rintro ⟨v, ⟨a, b, h1, h2, h3, h4, h5, rfl⟩, h6⟩; exact ⟨a, h1, b, h2, ⟨h3, h4, h5⟩, h6⟩
   ·rintro ⟨a, h1, b, h2, ⟨h3, h4, h5⟩, h6⟩; exact ⟨_, ⟨a, b, h1, h2, h3, h4, h5, rfl⟩, h6⟩
  | own id ver off len =>
   simp only [ML, aH, bJ]
   apply propext; simp only [aU]
   constructor
   ·rintro ⟨v, ⟨r, q1, q2, q3, a, b, h1, h2, h3, h4, h5, rfl⟩, h6⟩; exact ⟨r, q1, q2, q3, a, h1, b, h2, ⟨h3, h4, h5⟩, h6⟩
   ·rintro ⟨r, q1, q2, q3, a, h1, b, h2, ⟨h3, h4, h5⟩, h6⟩; exact ⟨_, ⟨r, q1, q2, q3, a, b, h1, h2, h3, h4, h5, rfl⟩, h6⟩
  | _ => simp [aU]
 | _ => simp [aU]
def rC (rows : Rows) (x : PV) (K : PV → Prop) : Prop :=
 match x with
 | .rd l => K (.rd l)
 | .ptr id ver i j => bJ (rows id) ver fun _ => K (.ptr id ver i j)
 | _ => False
@[congr] theorem afi {rows : Rows} {x x' : PV} {K : PV → Prop} (h : x = x') : rC rows x K = rC rows x' K := by rw [h]
@[simp] theorem amz {rows : Rows} {l : List PV} {K : PV → Prop} : rC rows (.rd l) K = go (K (.rd l)) := rfl
@[simp] theorem akn {rows : Rows} {id ver i j : Nat} {K : PV → Prop} : rC rows (.ptr id ver i j) K = bJ (rows id) ver fun _ => K (.ptr id ver i j) := rfl
theorem CM {rows : Rows} {x : PV} {K : PV → Prop} : aU (fun v => BD rows x v) K = rC rows x K := by
 simp only [BD, rC]
 cases x with
 | rd l => dsimp only; rw [iZ]
 | ptr id ver i j =>
  simp only [bJ]
  apply propext; simp only [aU]
  constructor
  ·rintro ⟨v, ⟨⟨r, h1, h2⟩, rfl⟩, h3⟩; exact ⟨r, h1, h2, h3⟩
  ·rintro ⟨r, h1, h2, h3⟩; exact ⟨_, ⟨⟨r, h1, h2⟩, rfl⟩, h3⟩
 | _ => simp [aU]
def kF (ti : TI) (rows : Rows) (x : PV) (K : PV → Prop) : Prop :=
 match ti with
 | .slice _ _ _ _ => match x with
  | .nil => K (.int .i64 0)
  | .sl l => K (.int .i64 l.length)
  | .iV l => K (.int .i64 l.length)
  | .own id ver _ len => bJ (rows id) ver fun _ => K (.int .i64 len)
  | _ => False
 | _ => False
@[congr] theorem afj {t t' : TI} {rows : Rows} {x x' : PV} {K : PV → Prop} (h : t = t') (h2 : x = x') : kF t rows x K = kF t' rows x' K := by rw [h, h2]
section
variable {α : Type} {g : α → List PV} {l : List α} {e n b : Nat} {z : List PV} {rows : Rows} {K : PV → Prop} {els : List (List PV)} {id ver off len : Nat}
@[simp] theorem ako : kF (.slice e n b z) rows (aI g l) K = go (K (.int .i64 l.length)) := by show _ = K _; simp [kF, aI, emap]
@[simp] theorem akp : kF (.slice e n b z) rows .nil K = go (K (.int .i64 0)) := rfl
@[simp] theorem amA : kF (.slice e n b z) rows (.sl els) K = go (K (.int .i64 els.length)) := rfl
@[simp] theorem akq : kF (.slice e n b z) rows (.iV els) K = go (K (.int .i64 els.length)) := rfl
@[simp] theorem akr : kF (.slice e n b z) rows (.own id ver off len) K = bJ (rows id) ver fun _ => K (.int .i64 len) := rfl
end
theorem CN {ti : TI} {rows : Rows} {x : PV} {K : PV → Prop} : aU (fun v => vH ti rows x v) K = kF ti rows x K := by
 simp only [vH, kF]
 cases ti with
 | slice e n b z =>
  apply propext; simp only [aU, SE]
  cases x with
  | own id ver off len =>
   simp only [bJ]
   constructor
   ·rintro ⟨v, ⟨n, ⟨⟨r, h1, h2⟩, rfl⟩, rfl⟩, h4⟩; exact ⟨r, h1, h2, h4⟩
   ·rintro ⟨r, h1, h2, h4⟩; exact ⟨_, ⟨_, ⟨⟨r, h1, h2⟩, rfl⟩, rfl⟩, h4⟩
  | _ => simp
 | _ => simp [aU]
def gK (els : List (List PV)) (i j : Nat) (l : List PV) : List (List PV) := els.set i (((els[i]?).getD []).take j ++ l ++ ((els[i]?).getD []).drop (j + l.length))
def rD (els : List (List PV)) (i n : Nat) : Prop := ∃ el, els[i]? = some el ∧ n ≤ el.length
def fU (rows : Rows) (l : List PV) : Prop := ∀ q ∈ l, gS rows q
@[simp] theorem ahD {rows : Rows} : fU rows [] = True := by simp [fU]
@[simp] theorem afk {rows : Rows} {p : PV} {l : List PV} : fU rows (p :: l) = (gS rows p ∧ fU rows l) := by simp [fU]
@[simp] theorem ahE {α : Type} [Inhabited α] {g : α → List PV} {l : List α} {i n : Nat} : rD (emap g l) i n = (i < l.length ∧ n ≤ (g (nth l i)).length) := by
 exact HJ (g := g) (l := l) (i := i) (K := fun el => n ≤ el.length)
def i3 (E : Env) (t : TypeId) (rows : Rows) (p x : PV) (K : Nat → Row → Prop) : Prop :=
 aH ((E.ty t).known = true) (match p with
 | .ptr id ver i j => bJ (rows id) ver fun r => eJ (bO x) fun l => aH (rD r.els i (j + l.length) ∧ fU rows l ∧ l.length = (E.ty t).size) (K id ⟨ver, r.e, r.size, gK r.els i j l⟩)
 | _ => False)
@[congr] theorem abM {E : Env} {t : TypeId} {rows : Rows} {p p' x x' : PV} {K : Nat → Row → Prop} (h1 : p = p') (h2 : x = x') : i3 E t rows p x K = i3 E t rows p' x' K := by rw [h1, h2]
@[simp] theorem afl {E : Env} {t : TypeId} {rows : Rows} {id ver i j : Nat} {x : PV} {K : Nat → Row → Prop} : i3 E t rows (.ptr id ver i j) x K = aH ((E.ty t).known = true) (bJ (rows id) ver fun r => eJ (bO x) fun l => aH (rD r.els i (j + l.length) ∧ fU rows l ∧ l.length = (E.ty t).size) (K id ⟨ver, r.e, r.size, gK r.els i j l⟩)) := rfl
theorem CO {E : Env} {t : TypeId} {rows : Rows} {p x : PV} {K : Nat → Row → Prop} : (∃ id r, oV E t rows p x .undef (some (id, r)) ∧ K id r) = i3 E t rows p x K := by
 simp only [oV, i3, aH, bJ, eJ, rD, fU]
 apply propext
 constructor
 ·rintro ⟨id, r, ⟨h1, _, h2⟩, h3⟩
  refine ⟨h1, ?_⟩
  split at h2
  ·obtain ⟨r0, q1, q2, el, q3, l, q4, q5, q6, q7, q8⟩ := h2
   simp only [Option.some.injEq, Prod.mk.injEq] at q8
   obtain ⟨rfl, rfl⟩ := q8
   refine ⟨r0, q1, q2, l, q4, ⟨⟨el, q3, q7⟩, q5, q6⟩, ?_⟩
   simp only [gK, q3, Option.getD_some]
   rw [q2] at h3
   exact h3
  ·exact h2.elim
 ·rintro ⟨h1, h2⟩
  split at h2
  ·obtain ⟨r0, q1, q2, l, q4, ⟨⟨el, q3, q7⟩, q5, q6⟩, h3⟩ := h2
   simp only [gK, q3, Option.getD_some] at h3
   refine ⟨_, _, ⟨h1, trivial, r0, q1, q2, el, q3, l, q4, q5, q6, q7, rfl⟩, ?_⟩
   rw [← q2] at h3
   exact h3
  ·exact h2.elim
def jE (rows : Rows) (y : PV) (K : List (List PV) → Prop) : Prop :=
 match y with
 | .nil => K []
 | .sl k => K k
 | .iV k => K k
 | .own id ver off len => bJ (rows id) ver fun r => K ((r.els.drop off).take len)
 | _ => False
@[congr] theorem afm {rows : Rows} {y y' : PV} {K : List (List PV) → Prop} (h : y = y') : jE rows y K = jE rows y' K := by rw [h]
@[simp] theorem aks {rows : Rows} {K : List (List PV) → Prop} : jE rows .nil K = go (K []) := rfl
@[simp] theorem amB {rows : Rows} {l : List (List PV)} {K : List (List PV) → Prop} : jE rows (.sl l) K = go (K l) := rfl
@[simp] theorem akt {α : Type} {g : α → List PV} {rows : Rows} {l : List α} {K : List (List PV) → Prop} : jE rows (aI g l) K = go (K (emap g l)) := rfl
@[simp] theorem aku {rows : Rows} {l : List (List PV)} {K : List (List PV) → Prop} : jE rows (.iV l) K = go (K l) := rfl
@[simp] theorem akv {rows : Rows} {id ver off len : Nat} {K : List (List PV) → Prop} : jE rows (.own id ver off len) K = bJ (rows id) ver fun r => K ((r.els.drop off).take len) := rfl
theorem PW {rows : Rows} {y : PV} {K : List (List PV) → Prop} : (∃ l, sP rows y l ∧ K l) = jE rows y K := by
 simp only [sP, jE]
 apply propext
 cases y with
 | own id ver off len =>
  simp only [bJ]
  constructor
  ·rintro ⟨l, ⟨r, h1, h2, rfl⟩, h3⟩; exact ⟨r, h1, h2, h3⟩
  ·rintro ⟨r, h1, h2, h3⟩; exact ⟨_, ⟨r, h1, h2, rfl⟩, h3⟩
 | _ => simp
def o7 (t : TI) (rows : Rows) (x y : PV) (clk d : Nat) (K : PV → Rows → Nat → Prop) : Prop :=
 match t with
 | .slice e n b _ => jE rows y fun l => aH (bB n l) (match x with
  | .nil => aH (l.length ≤ room ∧ l.length * b ≤ room) (K (.own d clk 0 l.length) (dC rows d (some ⟨clk, e, n, l⟩)) (clk + 1))
  | .own id ver off len => bJ (rows id) ver fun r => aH (off = 0 ∧ len = r.els.length ∧ r.e = e ∧ r.size = n) (aH (len + l.length ≤ room ∧ (len + l.length) * b ≤ room) (K (.own id clk 0 (len + l.length)) (dC rows id (some ⟨clk, e, n, r.els ++ l⟩)) (clk + 1)))
  | .iV l0 => aH (bB n l0 ∧ ∀ e ∈ l, ∀ p ∈ e, bW p = true) (aH (l0.length + l.length ≤ room ∧ (l0.length + l.length) * b ≤ room) (K (.sl (l0 ++ l)) rows clk))
  | _ => False)
 | _ => False
@[congr] theorem afn {t t' : TI} {rows : Rows} {x x' y y' : PV} {clk d : Nat} {K : PV → Rows → Nat → Prop} (h1 : t = t') (h3 : x = x') (h4 : y = y') :
  o7 t rows x y clk d K = o7 t' rows x' y' clk d K := by rw [h1, h3, h4]
section
variable {e n b clk d id ver off len : Nat} {z : List PV} {rows : Rows} {y : PV} {K : PV → Rows → Nat → Prop} {l0 : List (List PV)}
@[simp] theorem akw : o7 (.slice e n b z) rows .nil y clk d K = jE rows y fun l => aH (bB n l) (aH (l.length ≤ room ∧ l.length * b ≤ room) (K (.own d clk 0 l.length) (dC rows d (some ⟨clk, e, n, l⟩)) (clk + 1))) := rfl
@[simp] theorem akx : o7 (.slice e n b z) rows (.own id ver off len) y clk d K = jE rows y fun l => aH (bB n l) (bJ (rows id) ver fun r => aH (off = 0 ∧ len = r.els.length ∧ r.e = e ∧ r.size = n) (aH (len + l.length ≤ room ∧ (len + l.length) * b ≤ room) (K (.own id clk 0 (len + l.length)) (dC rows id (some ⟨clk, e, n, r.els ++ l⟩)) (clk + 1)))) := rfl
@[simp] theorem aky : o7 (.slice e n b z) rows (.iV l0) y clk d K = jE rows y fun l => aH (bB n l) (aH (bB n l0 ∧ ∀ e ∈ l, ∀ p ∈ e, bW p = true) (aH (l0.length + l.length ≤ room ∧ (l0.length + l.length) * b ≤ room) (K (.sl (l0 ++ l)) rows clk))) := rfl
end
theorem acz {t : TI} {rows : Rows} {x y : PV} {clk d : Nat} {K : PV → Rows → Nat → Prop} : S4 t rows x y clk d K = o7 t rows x y clk d K := by
 unfold S4 o7
 cases t with
 | slice e n b z =>
  dsimp only
  rw [← PW]
  congr 1; funext l; congr 1
  simp only [aH, bB]
  congr 1
  cases x with
  | own id ver off len => simp only [bJ, and_assoc]
  | iV l0 => simp only [bB, and_assoc]
  | _ => rfl
 | _ => rfl
def fzR (o : Option Row) (ver off len : Nat) : PV :=
 match o with
 | some r => if r.ver = ver then .sl ((r.els.drop off).take len) else .undef
 | none => .undef
@[simp] theorem ar7 {rows : Rows} {id ver off len : Nat} : fz rows (.own id ver off len) = fzR (rows id) ver off len := rfl
@[simp] theorem amC {α : Type} {g : α → List PV} {l : List α} {ver e n off len : Nat} : fzR (some ⟨ver, e, n, emap g l⟩) ver off len = aI g ((l.drop off).take len) := by simp [fzR, aI, emap]
@[simp] theorem ar8 {rows : Rows} : fz rows .nil = .sl [] := rfl
@[simp] theorem ar9 {rows : Rows} {l : List (List PV)} : fz rows (.iV l) = .sl l := rfl
@[simp] theorem au4 {rows : Rows} {l : List (List PV)} : fz rows (.sl l) = .sl l := rfl
@[simp] theorem asa {α : Type} {g : α → List PV} {rows : Rows} {l : List α} : fz rows (aI g l) = aI g l := rfl
@[simp] theorem asb {rows : Rows} {k : IntKind} {n : Int} : fz rows (.int k n) = .int k n := rfl
@[simp] theorem ap4 {rows : Rows} {b : Bool} : fz rows (.bool b) = .bool b := rfl
@[simp] theorem au5 {rows : Rows} {f : FuncId} {l : List PV} : fz rows (.fn f l) = .fn f l := rfl
@[simp] theorem asc {rows : Rows} {id ver off len : Nat} : pz rows (.own id ver off len) = fzR (rows id) ver off len := rfl
@[simp] theorem asd {rows : Rows} : pz rows .nil = .sl [] := rfl
@[simp] theorem ase {rows : Rows} {l : List (List PV)} : pz rows (.iV l) = .sl l := rfl
@[simp] theorem au6 {rows : Rows} {l : List (List PV)} : pz rows (.sl l) = .sl l := rfl
@[simp] theorem asf {α : Type} {g : α → List PV} {rows : Rows} {l : List α} : pz rows (aI g l) = aI g l := rfl
@[simp] theorem asg {rows : Rows} {k : IntKind} {n : Int} : pz rows (.int k n) = .int k n := rfl
@[simp] theorem ap5 {rows : Rows} {b : Bool} : pz rows (.bool b) = .bool b := rfl
@[simp] theorem au7 {rows : Rows} {f : FuncId} {l : List PV} : pz rows (.fn f l) = .fn f l := rfl
@[simp] theorem au8 {rows : Rows} {l : List PV} : pz rows (.ag l) = .ag (l.map (fz rows)) := rfl
@[simp] theorem amD {α : Type} {g : α → List PV} {l : List α} : eW (aI g l) = true := rfl
@[simp] theorem akA {α : Type} {g : α → List PV} {l : List α} : bW (aI g l) = true := rfl
@[simp] theorem ap6 {α : Type} {g : α → List PV} {l : List α} : aZ (aI g l) = [] := rfl
@[simp] theorem amE {α : Type} {g : α → List PV} {l : List α} : dA (aI g l) = [] := rfl
@[simp] theorem ap7 {l : List (List PV)} : dA (.sl l) = [] := rfl
@[simp] theorem amF {l : List (List PV)} : dA (.iV l) = [] := rfl
@[simp] theorem amG {k : IntKind} {n : Int} : dA (.int k n) = [] := rfl
@[simp] theorem akB {b : Bool} : dA (.bool b) = [] := rfl
@[simp] theorem ap8 {f : FuncId} {l : List PV} : dA (.fn f l) = [] := rfl
@[simp] theorem amH : dA .nil = [] := rfl
@[simp] theorem amI {id ver off len : Nat} : dA (.own id ver off len) = [id] := rfl
@[simp] theorem ap9 {l : List PV} : dA (.ag l) = l.flatMap aZ := rfl
@[simp] theorem amJ {α : Type} {g : α → List PV} {rows : Rows} {l : List α} : gS rows (aI g l) = True := rfl
@[simp] theorem ahF {α : Type} {g : α → List PV} {l : List α} : bO (aI g l) = some [aI g l] := rfl
@[simp] theorem ahG {α : Type} {g : α → List PV} {l : List α} : dX (aI g l) = some [aI g l] := rfl
def cP (o : Option Row) : Prop := ∀ r, o = some r → ∀ e ∈ r.els, ∀ p ∈ e, bW p = true
@[simp] theorem acA {rows : Rows} : dI rows [] = True := by simp [dI]
@[simp] theorem abN {rows : Rows} {id : Nat} {ids : List Nat} : dI rows (id :: ids) = (cP (rows id) ∧ dI rows ids) := by simp [dI, cP]
@[simp] theorem acB : cP none = True := by simp [cP]
@[simp] theorem cM {α : Type} {g : α → List PV} {l : List α} {ver e n : Nat} (h : ams g) : cP (some ⟨ver, e, n, emap g l⟩) = True := by
 simp only [cP, emap, Option.some.injEq, eq_iff_iff, iff_true]
 rintro r rfl e he p hp
 simp at he
 obtain ⟨x, _, rfl⟩ := he
 exact List.all_eq_true.1 (h x) p hp
@[simp] theorem aqa {rows : Rows} : CE rows [] = rows := by funext j; simp [CE]
@[simp] theorem ash {rows : Rows} {ids : List Nat} {j : Nat} : CE rows ids j = if j ∈ ids then none else rows j := rfl
def kW (fs : List (Nat × Nat × Bool)) : List (Nat × PV) → List PV → (List PV → Prop) → Prop
 | [], z, K => K z
 | (i, p) :: ps, z, K => eJ (kC fs i) fun q => eJ (dX p) fun l => aH (l.length = q.2.1 ∧ q.1 + q.2.1 ≤ z.length) (kW fs ps (z.take q.1 ++ l ++ z.drop (q.1 + q.2.1)) K)
@[congr] theorem afo {fs : List (Nat × Nat × Bool)} {ps PY : List (Nat × PV)} {z z' : List PV} {K : List PV → Prop} (h : ps = PY) (h2 : z = z') : kW fs ps z K = kW fs PY z' K := by rw [h, h2]
@[simp] theorem akC {fs : List (Nat × Nat × Bool)} {z : List PV} {K : List PV → Prop} : kW fs [] z K = go (K z) := rfl
@[simp] theorem ahH {fs : List (Nat × Nat × Bool)} {i : Nat} {p : PV} {ps : List (Nat × PV)} {z : List PV} {K : List PV → Prop} : kW fs ((i, p) :: ps) z K = eJ (kC fs i) fun q => eJ (dX p) fun l => aH (l.length = q.2.1 ∧ q.1 + q.2.1 ≤ z.length) (kW fs ps (z.take q.1 ++ l ++ z.drop (q.1 + q.2.1)) K) := rfl
theorem y8 {fs : List (Nat × Nat × Bool)} : ∀ {ps : List (Nat × PV)} {z : List PV} {K : List PV → Prop}, (∃ l, qV fs ps z = some l ∧ K l) ↔ kW fs ps z K
 | [], z, K => by simp [qV, kW]
 | (i, p) :: ps, z, K => by
  simp only [qV, kW, eJ, aH, kC]
  cases h1 : fs[i]? with
  | none => simp
  | some q =>
   obtain ⟨o, n, b⟩ := q
   cases h2 : dX p with
   | none => simp
   | some l =>
    simp only [Option.some.injEq, exists_eq_left']
    rw [← y8]
    split
    ·rename_i h; simp [h]
    ·rename_i h; simp [h]
def jY (ti : TI) (ps : List (Nat × PV)) (K : PV → Prop) : Prop :=
 match ti with
 | .struct fs z => kW fs ps z fun l => K (.ag l)
 | .arr _ k n z => kW (K7 k n) ps z fun l => K (.ag l)
 | _ => False
@[congr] theorem abO {t t' : TI} {ps PY : List (Nat × PV)} {K : PV → Prop} (h : t = t') (h2 : ps = PY) : jY t ps K = jY t' PY K := by rw [h, h2]
@[simp] theorem XT {fs : List (Nat × Nat × Bool)} {z : List PV} {ps : List (Nat × PV)} {K : PV → Prop} : jY (.struct fs z) ps K = kW fs ps z fun l => K (.ag l) := rfl
@[simp] theorem afp {e k n : Nat} {z : List PV} {ps : List (Nat × PV)} {K : PV → Prop} : jY (.arr e k n z) ps K = kW (K7 k n) ps z fun l => K (.ag l) := rfl
@[simp] theorem akD {k n i : Nat} : kC (K7 k n) i = if i < k then some (i * n, n, false) else none := by
 unfold kC K7
 rw [List.getElem?_map]
 split
 ·rename_i h; rw [List.getElem?_range h]; rfl
 ·rename_i h; rw [List.getElem?_eq_none (by simpa using h)]; rfl
theorem wB {ti : TI} {ps : List (Nat × PV)} {K : PV → Prop} : aU (fun v => oR ti ps v) K = jY ti ps K := by
 simp only [oR, jY]
 cases ti with
 | struct fs z =>
  apply propext; simp only [aU]
  rw [← y8]
  constructor
  ·rintro ⟨v, ⟨l, h1, rfl⟩, h2⟩; exact ⟨l, h1, h2⟩
  ·rintro ⟨l, h1, h2⟩; exact ⟨_, ⟨l, h1, rfl⟩, h2⟩
 | arr e k n z =>
  apply propext; simp only [aU]
  rw [← y8]
  constructor
  ·rintro ⟨v, ⟨l, h1, rfl⟩, h2⟩; exact ⟨l, h1, h2⟩
  ·rintro ⟨l, h1, h2⟩; exact ⟨_, ⟨l, h1, rfl⟩, h2⟩
 | _ => simp [aU]
def iC (n : Nat) : Nat → List (Nat × PV) → (List (List PV) → Prop) → Prop
 | _, [], K => K []
 | k, (i, p) :: ps, K => eJ (bO p) fun l => aH (i = k ∧ l.length = n) (iC n (k + 1) ps fun els => K (l :: els))
@[congr] theorem acC {n k : Nat} {ps PY : List (Nat × PV)} {K : List (List PV) → Prop} (h : ps = PY) : iC n k ps K = iC n k PY K := by rw [h]
@[simp] theorem ahI {n k : Nat} {K : List (List PV) → Prop} : iC n k [] K = go (K []) := rfl
@[simp] theorem afq {n k i : Nat} {p : PV} {ps : List (Nat × PV)} {K : List (List PV) → Prop} : iC n k ((i, p) :: ps) K = eJ (bO p) fun l => aH (i = k ∧ l.length = n) (iC n (k + 1) ps fun els => K (l :: els)) := rfl
theorem uR {n : Nat} : ∀ {ps : List (Nat × PV)} {k : Nat} {K : List (List PV) → Prop}, (∃ l, fS n k ps = some l ∧ K l) ↔ iC n k ps K
 | [], k, K => by simp [fS, iC]
 | (i, p) :: ps, k, K => by
  simp only [fS, iC, eJ, aH]
  cases h2 : bO p with
  | none => simp
  | some l =>
   simp only [Option.some.injEq, exists_eq_left']
   rw [← uR]
   by_cases h : i = k ∧ l.length = n
   ·rw [if_pos h]
    constructor
    ·rintro ⟨e, h1, h3⟩
     obtain ⟨e', h4, rfl⟩ := Option.map_eq_some_iff.1 h1
     exact ⟨h, e', h4, h3⟩
    ·rintro ⟨_, e', h4, h3⟩
     exact ⟨_, by rw [h4]; rfl, h3⟩
   ·rw [if_neg h]; simp [h]
def y9 (rows : Rows) (els : List (List PV)) : Prop := (∀ e ∈ els, ∀ p ∈ e, bW (fz rows p) = true ∧ gS rows p) ∧ (∀ e ∈ els, ∀ p ∈ e, aZ p = [])
@[simp] theorem akE {rows : Rows} : y9 rows [] = True := by simp [y9]
@[simp] theorem ahJ {rows : Rows} {e : List PV} {els : List (List PV)} : y9 rows (e :: els) = ((∀ p ∈ e, bW (fz rows p) = true ∧ gS rows p ∧ aZ p = []) ∧ y9 rows els) := by
 simp only [y9, List.mem_cons, forall_eq_or_imp, eq_iff_iff]
 constructor
 ·rintro ⟨⟨h1, h2⟩, h3, h4⟩; exact ⟨fun p hp => ⟨(h1 p hp).1, (h1 p hp).2, h3 p hp⟩, h2, h4⟩
 ·rintro ⟨h1, h2, h4⟩; exact ⟨⟨fun p hp => ⟨(h1 p hp).1, (h1 p hp).2.1⟩, h2⟩, fun p hp => (h1 p hp).2.2, h4⟩
def sW (ti : TI) (rows : Rows) (len : Nat) (ps : List (Nat × PV)) (K : PV → Prop) : Prop :=
 match ti with
 | .slice _ n _ _ => iC n 0 ps fun els => aH (len = els.length ∧ len ≤ 4096 ∧ n ≤ 4096 ∧ y9 rows els) (K (.iV (els.map fun e => e.map (fz rows))))
 | _ => False
@[congr] theorem afr {t t' : TI} {rows : Rows} {len : Nat} {ps PY : List (Nat × PV)} {K : PV → Prop} (h : t = t') (h2 : ps = PY) : sW t rows len ps K = sW t' rows len PY K := by rw [h, h2]
@[simp] theorem afs {e n b : Nat} {z : List PV} {rows : Rows} {len : Nat} {ps : List (Nat × PV)} {K : PV → Prop} : sW (.slice e n b z) rows len ps K = iC n 0 ps fun els => aH (len = els.length ∧ len ≤ 4096 ∧ n ≤ 4096 ∧ y9 rows els) (K (.iV (els.map fun e => e.map (fz rows)))) := rfl
theorem CP {ti : TI} {rows : Rows} {len : Nat} {ps : List (Nat × PV)} {K : PV → Prop} : aU (fun v => LN ti rows len ps v) K = sW ti rows len ps K := by
 simp only [LN, sW]
 cases ti with
 | slice e n b z =>
  apply propext; simp only [aU]
  rw [← uR]
  constructor
  ·rintro ⟨v, ⟨l, h1, h2, h3, h4, h5, h6, rfl⟩, h7⟩; exact ⟨l, h1, ⟨h2, h3, h4, h5, h6⟩, h7⟩
  ·rintro ⟨l, h1, ⟨h2, h3, h4, h5, h6⟩, h7⟩; exact ⟨_, ⟨l, h1, h2, h3, h4, h5, h6, rfl⟩, h7⟩
 | _ => simp [aU]
def sX (i : Nat) (x : PV) (K : PV → Prop) : Prop :=
 match x with
 | .eA l => eJ (kC l i) K
 | _ => False
@[congr] theorem afu {i : Nat} {x x' : PV} {K : PV → Prop} (h : x = x') : sX i x K = sX i x' K := by rw [h]
@[simp] theorem akF {i : Nat} {l : List PV} {K : PV → Prop} : sX i (.eA l) K = eJ (kC l i) K := rfl
theorem CQ {i : Nat} {x : PV} {K : PV → Prop} : aU (fun v => K6 i x v) K = sX i x K := by
 simp only [K6, sX]
 cases x <;> first | rfl | simp [aU]
def BO : List Oper → Nat → Option Tmp
 | [], _ => none
 | o :: _, 0 => o.dst
 | _ :: os, n + 1 => BO os n
theorem ER : ∀ (ops : List Oper) (j : Nat), BO ops j = (ops[j]?).bind (·.dst)
 | [], j => by simp [BO]
 | o :: os, 0 => by simp [BO]
 | o :: os, n + 1 => by simp [BO, ER os n]
@[simp] theorem akG {d : Option Tmp} {op : Op} {ty : TypeId} {pos : String} {af : Array Edge} {g : Option (Nat × Bool)} {os : List Oper} : BO (⟨d, op, ty, pos, af, g⟩ :: os) 0 = d := rfl
@[simp] theorem akH {o : Oper} {os : List Oper} {n : Nat} : BO (o :: os) (n + 1) = BO os n := rfl
def nP (o : Option Tmp) (f : Nat → PV) (w : Bool) (A B : Prop) : Prop :=
 match o with
 | none => False
 | some e => stepG (f e) w A B
@[congr] theorem acD {o o' : Option Tmp} {f : Nat → PV} {w : Bool} {A B : Prop} (h : o = o') : nP o f w A B = nP o' f w A B := by rw [h]
@[simp] theorem afv {e : Tmp} {f : Nat → PV} {w : Bool} {A B : Prop} : nP (some e) f w A B = stepG (f e) w A B := rfl
@[simp] theorem akI {o : Option Tmp} {f : Nat → PV} {w : Bool} {A B : Prop} : go (nP o f w A B) = nP o f w A B := rfl
section
variable {E : Env} {ops os : List Oper} {K : PS → Prop} {f : Nat → PV} {rows : Rows} {clk : Nat} {d : Option Tmp} {ty : TypeId} {pos : String} {af : Array Edge} {k : Nat} {bK : Nat → Nat → Prop} {aO : Nat → Nat → Prop}
theorem HM {op : Op} {j : Nat} {want : Bool} : aL E ops (⟨d, op, ty, pos, af, some (j, want)⟩ :: os) K ⟨f, rows, clk⟩ = nP ((ops[j]?).bind (·.dst)) f want (aL E ops (⟨d, op, ty, pos, af, none⟩ :: os) K ⟨f, rows, clk⟩) (aL E ops os K ⟨put f d (.eA []), rows, clk⟩) := L6
theorem HN {op : Op} {j : Nat} {want : Bool} : aN E ops clk k (⟨d, op, ty, pos, af, some (j, want)⟩ :: os) K ⟨f, rows, bK, aO⟩ = nP ((ops[j]?).bind (·.dst)) f want (aN E ops clk k (⟨d, op, ty, pos, af, none⟩ :: os) K ⟨f, rows, bK, aO⟩) (aN E ops clk (k + 1) os K ⟨put f d (.eA []), rows, bK, aO⟩) := MD
end
section
variable {E : Env} {ops os : List Oper} {K : PS → Prop} {f : Nat → PV} {rows : Rows} {clk : Nat} {d : Option Tmp} {ty : TypeId} {pos : String} {af : Array Edge} {k : Nat} {bK : Nat → Nat → Prop} {aO : Nat → Nat → Prop}
theorem MM {t : TypeId} {x : Operand} : aL E ops (⟨d, .load t x, ty, pos, af, none⟩ :: os) K ⟨f, rows, clk⟩ = jO E t rows (aQ f x) fun v => aL E ops os K ⟨put f d v, rows, clk⟩ := by rw [S3, rQ]
theorem HO {t : TypeId} {i : Nat} {x : Operand} : aL E ops (⟨d, .field t x i, ty, pos, af, none⟩ :: os) K ⟨f, rows, clk⟩ = i0 (E.ty t) i (aQ f x) fun v => aL E ops os K ⟨put f d v, rows, clk⟩ := by rw [L7, vX]
theorem w8 {t : TypeId} {i : Nat} {x : Operand} : aL E ops (⟨d, .fieldAddr t x i, ty, pos, af, none⟩ :: os) K ⟨f, rows, clk⟩ = cY (E.ty t) rows i (aQ f x) fun v => aL E ops os K ⟨put f d v, rows, clk⟩ := by rw [yZ, oB]
theorem w9 {t : TypeId} {x y : Operand} : aL E ops (⟨d, .indexAddr t x y, ty, pos, af, none⟩ :: os) K ⟨f, rows, clk⟩ = bS (E.ty t) rows (aQ f x) (aQ f y) fun v => aL E ops os K ⟨put f d v, rows, clk⟩ := by rw [y3, oC]
theorem HP {t : TypeId} {x : Operand} {lo hi mx : Option Operand} : aL E ops (⟨d, .slice t x lo hi mx, ty, pos, af, none⟩ :: os) K ⟨f, rows, clk⟩ = eN (E.ty t) rows (aQ f x) (lo.map (aQ f)) (hi.map (aQ f)) (mx.map (aQ f)) fun v => aL E ops os K ⟨put f d v, rows, clk⟩ := by rw [L8, vZ]
theorem TC {t : TypeId} {x : Operand} : aL E ops (⟨d, .call { callee := .builtin .len, args := ⟨[x]⟩, argTypes := ⟨[t]⟩ }, ty, pos, af, none⟩ :: os) K ⟨f, rows, clk⟩ = kF (E.ty t) rows (aQ f x) fun v => aL E ops os K ⟨put f d v, rows, clk⟩ := by rw [XH, CN]
theorem HQ {t : TypeId} {p x : Operand} : aL E ops (⟨none, .store t p x, ty, pos, af, none⟩ :: os) K ⟨f, rows, clk⟩ = i3 E t rows (aQ f p) (aQ f x) fun id r => aL E ops os K ⟨f, dC rows id (some r), clk⟩ := by rw [MB, CO]
theorem ES {t t2 : TypeId} {x y : Operand} : aL E ops (⟨d, .call { callee := .builtin .append, args := ⟨[x, y]⟩, argTypes := ⟨[t, t2]⟩ }, ty, pos, af, none⟩ :: os) K ⟨f, rows, clk⟩ =
  aH (t2 = t ∨ WG (E.ty t2) = true) (o7 (E.ty t) rows (aQ f x) (aQ f y) clk (d.getD 0) fun v rows clk => aL E ops os K ⟨put f d v, rows, clk⟩) := by rw [HF, acz]
theorem MN {t : TypeId} {x : Operand} : aN E ops clk k (⟨d, .load t x, ty, pos, af, none⟩ :: os) K ⟨f, rows, bK, aO⟩ = jO E t (dJ .any ops k aO rows) (aQ f x) fun v => aN E ops clk (k + 1) os K ⟨put f d v, rows, j2 k (aZ (aQ f x)) bK, aO⟩ := by rw [S9, rQ]
theorem HR {t : TypeId} {i : Nat} {x : Operand} : aN E ops clk k (⟨d, .field t x i, ty, pos, af, none⟩ :: os) K ⟨f, rows, bK, aO⟩ = i0 (E.ty t) i (aQ f x) fun v => aN E ops clk (k + 1) os K ⟨put f d v, rows, bK, aO⟩ := by rw [ME, vX]
theorem xA {t : TypeId} {i : Nat} {x : Operand} : aN E ops clk k (⟨d, .fieldAddr t x i, ty, pos, af, none⟩ :: os) K ⟨f, rows, bK, aO⟩ = cY (E.ty t) (dJ .any ops k aO rows) i (aQ f x) fun v => aN E ops clk (k + 1) os K ⟨put f d v, rows, j2 k (aZ (aQ f x)) bK, aO⟩ := by rw [y5, oB]
theorem xB {t : TypeId} {x y : Operand} : aN E ops clk k (⟨d, .indexAddr t x y, ty, pos, af, none⟩ :: os) K ⟨f, rows, bK, aO⟩ = bS (E.ty t) (dJ .any ops k aO rows) (aQ f x) (aQ f y) fun v => aN E ops clk (k + 1) os K ⟨put f d v, rows, j2 k (aZ (aQ f x)) bK, aO⟩ := by rw [y6, oC]
theorem HS {t : TypeId} {x : Operand} {lo hi mx : Option Operand} : aN E ops clk k (⟨d, .slice t x lo hi mx, ty, pos, af, none⟩ :: os) K ⟨f, rows, bK, aO⟩ = eN (E.ty t) (dJ .any ops k aO rows) (aQ f x) (lo.map (aQ f)) (hi.map (aQ f)) (mx.map (aQ f)) fun v => aN E ops clk (k + 1) os K ⟨put f d v, rows, j2 k (aZ (aQ f x)) bK, aO⟩ := by rw [MF, vZ]
theorem TD {t : TypeId} {x : Operand} : aN E ops clk k (⟨d, .call { callee := .builtin .len, args := ⟨[x]⟩, argTypes := ⟨[t]⟩ }, ty, pos, af, none⟩ :: os) K ⟨f, rows, bK, aO⟩ = kF (E.ty t) (dJ .any ops k aO rows) (aQ f x) fun v => aN E ops clk (k + 1) os K ⟨put f d v, rows, j2 k (aZ (aQ f x)) bK, aO⟩ := by rw [XM, CN]
theorem HT {t : TypeId} {p x : Operand} : aN E ops clk k (⟨none, .store t p x, ty, pos, af, none⟩ :: os) K ⟨f, rows, bK, aO⟩ =
  i3 E t (dJ .any ops k aO rows) (aQ f p) (aQ f x) fun id r => aH (yS .any ops k id bK) (aN E ops clk (k + 1) os K ⟨f, dC rows id (some r), j2 k (aZ (aQ f p) ++ ((bO (aQ f x)).getD []).flatMap aZ) bK, nN k id aO⟩) := by rw [MH, ← CO]; rfl
theorem PZ {x : Operand} : go (aL E ops (⟨d, .move x, ty, pos, af, none⟩ :: os) K ⟨f, rows, clk⟩) = go (aL E ops os K ⟨put f d (aQ f x), rows, clk⟩) := SX
theorem CR {x : Operand} : go (aL E ops (⟨d, .assign x, ty, pos, af, none⟩ :: os) K ⟨f, rows, clk⟩) = go (aL E ops os K ⟨put f d (aQ f x), rows, clk⟩) := HE
theorem acE {c a b : Operand} : go (aL E ops (⟨d, .pick c a b, ty, pos, af, none⟩ :: os) K ⟨f, rows, clk⟩) = gJ (aQ f c) true (aL E ops os K ⟨put f d (aQ f a), rows, clk⟩) (aL E ops os K ⟨put f d (aQ f b), rows, clk⟩) := SY
theorem XU {op : BinOp} {t t2 : TypeId} {x y : Operand} : go (aL E ops (⟨d, .binOp op t x y t2, ty, pos, af, none⟩ :: os) K ⟨f, rows, clk⟩) = aU (fun v => D4 E op t (aQ f x) (aQ f y) v) fun v => aL E ops os K ⟨put f d v, rows, clk⟩ := XG
theorem amK {op : UnOp} {t : TypeId} {x : Operand} : go (aL E ops (⟨d, .unOp op t x, ty, pos, af, none⟩ :: os) K ⟨f, rows, clk⟩) = aU (fun v => yun op (aQ f x) v) fun v => aL E ops os K ⟨put f d v, rows, clk⟩ := acs
theorem ET {s t : TypeId} {x : Operand} : go (aL E ops (⟨d, .convert s t x, ty, pos, af, none⟩ :: os) K ⟨f, rows, clk⟩) = aU (fun v => qW (E.ty s) (E.ty t) (aQ f x) v) fun v => aL E ops os K ⟨put f d v, rows, clk⟩ := SZ
theorem MO {i : Nat} {x : Operand} : go (aL E ops (⟨d, .extract x i, ty, pos, af, none⟩ :: os) K ⟨f, rows, clk⟩) = sX i (aQ f x) fun v => aL E ops os K ⟨put f d v, rows, clk⟩ := by
 show aL E ops (⟨d, .extract x i, ty, pos, af, none⟩ :: os) K ⟨f, rows, clk⟩ = _
 rw [EM, CQ]
theorem acF {t : TypeId} {x : Operand} : go (aL E ops (⟨d, .load t x, ty, pos, af, none⟩ :: os) K ⟨f, rows, clk⟩) = jO E t rows (aQ f x) fun v => aL E ops os K ⟨put f d v, rows, clk⟩ := MM
theorem XV {t : TypeId} {i : Nat} {x : Operand} : go (aL E ops (⟨d, .field t x i, ty, pos, af, none⟩ :: os) K ⟨f, rows, clk⟩) = i0 (E.ty t) i (aQ f x) fun v => aL E ops os K ⟨put f d v, rows, clk⟩ := HO
theorem EU {t : TypeId} {i : Nat} {x : Operand} : go (aL E ops (⟨d, .fieldAddr t x i, ty, pos, af, none⟩ :: os) K ⟨f, rows, clk⟩) = cY (E.ty t) rows i (aQ f x) fun v => aL E ops os K ⟨put f d v, rows, clk⟩ := w8
theorem EV {t : TypeId} {x y : Operand} : go (aL E ops (⟨d, .indexAddr t x y, ty, pos, af, none⟩ :: os) K ⟨f, rows, clk⟩) = bS (E.ty t) rows (aQ f x) (aQ f y) fun v => aL E ops os K ⟨put f d v, rows, clk⟩ := w9
theorem XW {t : TypeId} {x : Operand} {lo hi mx : Option Operand} : go (aL E ops (⟨d, .slice t x lo hi mx, ty, pos, af, none⟩ :: os) K ⟨f, rows, clk⟩) = eN (E.ty t) rows (aQ f x) (lo.map (aQ f)) (hi.map (aQ f)) (mx.map (aQ f)) fun v => aL E ops os K ⟨put f d v, rows, clk⟩ := HP
theorem XX {t : TypeId} {parts : Array (Nat × Operand)} : go (aL E ops (⟨d, .build t parts, ty, pos, af, none⟩ :: os) K ⟨f, rows, clk⟩) = jY (E.ty t) (parts.toList.map fun x => (x.1, aQ f x.2)) fun v => aL E ops os K ⟨put f d v, rows, clk⟩ := by
 show aL E ops (⟨d, .build t parts, ty, pos, af, none⟩ :: os) K ⟨f, rows, clk⟩ = _
 rw [L9, wB]
theorem HU {t : TypeId} {x y : Operand} : go (aL E ops (⟨d, .index t x y, ty, pos, af, none⟩ :: os) K ⟨f, rows, clk⟩) = aU (fun v => rJ (E.ty t) (aQ f x) (aQ f y) v) fun v => aL E ops os K ⟨put f d v, rows, clk⟩ := MA
theorem HV {x : Operand} : go (aL E ops (⟨d, .nilCheck x, ty, pos, af, none⟩ :: os) K ⟨f, rows, clk⟩) = rC rows (aQ f x) fun v => aL E ops os K ⟨put f d v, rows, clk⟩ := by show aL E ops _ K _ = _; rw [BK, CM]
theorem ahK {t : TypeId} {x : Operand} : go (aL E ops (⟨d, .call { callee := .builtin .len, args := ⟨[x]⟩, argTypes := ⟨[t]⟩ }, ty, pos, af, none⟩ :: os) K ⟨f, rows, clk⟩) = kF (E.ty t) rows (aQ f x) fun v => aL E ops os K ⟨put f d v, rows, clk⟩ := TC
theorem ahL {ts : Array TypeId} {x y : Operand} : go (aL E ops (⟨d, .call { callee := .builtin .max, args := ⟨[x, y]⟩, argTypes := ts }, ty, pos, af, none⟩ :: os) K ⟨f, rows, clk⟩) = aU (fun v => K8 (aQ f x) (aQ f y) v) fun v => aL E ops os K ⟨put f d v, rows, clk⟩ := XI
theorem ahM {ts : Array TypeId} {x y : Operand} : go (aL E ops (⟨d, .call { callee := .builtin .min, args := ⟨[x, y]⟩, argTypes := ts }, ty, pos, af, none⟩ :: os) K ⟨f, rows, clk⟩) = aU (fun v => K9 (aQ f x) (aQ f y) v) fun v => aL E ops os K ⟨put f d v, rows, clk⟩ := XJ
theorem BP {t : TypeId} {len : Nat} {parts : Array (Nat × Operand)} : go (aL E ops (⟨d, .buildSlice t len parts, ty, pos, af, none⟩ :: os) K ⟨f, rows, clk⟩) = sW (E.ty t) rows len (parts.toList.map fun x => (x.1, aQ f x.2)) fun v => aL E ops os K ⟨put f d v, rows, clk⟩ := by
 show aL E ops (⟨d, .buildSlice t len parts, ty, pos, af, none⟩ :: os) K ⟨f, rows, clk⟩ = _
 rw [w6, CP]
theorem XY {t : TypeId} {p x : Operand} : go (aL E ops (⟨none, .store t p x, ty, pos, af, none⟩ :: os) K ⟨f, rows, clk⟩) = i3 E t rows (aQ f p) (aQ f x) fun id r => aL E ops os K ⟨f, dC rows id (some r), clk⟩ := HQ
theorem XZ {t : TypeId} : go (aL E ops (⟨d, .alloc t, ty, pos, af, none⟩ :: os) K ⟨f, rows, clk⟩) = aH ((E.ty t).known = true) (aL E ops os K ⟨put f d (.ptr (d.getD 0) clk 0 0), dC rows (d.getD 0) (some ⟨clk, t, (E.ty t).size, [(E.ty t).zero]⟩), clk + 1⟩) := MC
theorem ahN {t : TypeId} {x : Operand} : go (aL E ops (⟨d, .box t x, ty, pos, af, none⟩ :: os) K ⟨f, rows, clk⟩) = aH ((E.ty t).known = true) (eJ (bO (aQ f x)) fun l => aH (fU rows l ∧ l.length = (E.ty t).size) (aL E ops os K ⟨put f d (.ptr (d.getD 0) clk 0 0), dC rows (d.getD 0) (some ⟨clk, t, (E.ty t).size, [l]⟩), clk + 1⟩)) := by
 show aL E ops (⟨d, .box t x, ty, pos, af, none⟩ :: os) K ⟨f, rows, clk⟩ = _
 rw [XK]
 simp only [aH, eJ, fU, and_assoc]
theorem EW {t : TypeId} {l c : Operand} : go (aL E ops (⟨d, .makeSlice t l c, ty, pos, af, none⟩ :: os) K ⟨f, rows, clk⟩) = o0 (E.ty t) (aQ f l) (aQ f c) fun e n z x => aL E ops os K ⟨put f d (.own (d.getD 0) clk 0 x.toNat), dC rows (d.getD 0) (some ⟨clk, e, n, List.replicate x.toNat z⟩), clk + 1⟩ := y4
theorem TE {t t2 : TypeId} {x y : Operand} : go (aL E ops (⟨d, .call { callee := .builtin .append, args := ⟨[x, y]⟩, argTypes := ⟨[t, t2]⟩ }, ty, pos, af, none⟩ :: os) K ⟨f, rows, clk⟩) = aH (t2 = t ∨ WG (E.ty t2) = true) (o7 (E.ty t) rows (aQ f x) (aQ f y) clk (d.getD 0) fun v rows clk => aL E ops os K ⟨put f d v, rows, clk⟩) := ES
theorem acG {fo : Operand} {args : Array Operand} {ts : Array TypeId} : go (aL E ops (⟨d, .call { callee := .value fo, args := args, argTypes := ts }, ty, pos, af, none⟩ :: os) K ⟨f, rows, clk⟩) = o6 E (aQ f fo) (args.toList.map (aQ f)) rows clk fun v rows clk => aL E ops os K ⟨put f d v, rows, clk⟩ := S5
theorem HW {g : FuncId} {bQ : Array Operand} : go (aL E ops (⟨d, .makeFunc (.func g) ⟨[]⟩ bQ, ty, pos, af, none⟩ :: os) K ⟨f, rows, clk⟩) = aH (((bQ.toList.map (aQ f)).map (pz rows)).all eW = true ∧ dI rows ((bQ.toList.map (aQ f)).flatMap dA))
      (aL E ops os K ⟨put f d (.fn g ((bQ.toList.map (aQ f)).map (pz rows))), CE rows ((bQ.toList.map (aQ f)).flatMap dA), clk⟩) := BL
theorem X0 {op : Op} {j : Nat} {want : Bool} : go (aL E ops (⟨d, op, ty, pos, af, some (j, want)⟩ :: os) K ⟨f, rows, clk⟩) = nP (BO ops j) f want (aL E ops (⟨d, op, ty, pos, af, none⟩ :: os) K ⟨f, rows, clk⟩) (aL E ops os K ⟨put f d (.eA []), rows, clk⟩) := by
 rw [ER, ← HM]; rfl
theorem acH {x : Operand} : go (aN E ops clk k (⟨d, .move x, ty, pos, af, none⟩ :: os) K ⟨f, rows, bK, aO⟩) = go (aN E ops clk (k + 1) os K ⟨put f d (aQ f x), rows, bK, aO⟩) := S6
theorem TF {x : Operand} : go (aN E ops clk k (⟨d, .assign x, ty, pos, af, none⟩ :: os) K ⟨f, rows, bK, aO⟩) = go (aN E ops clk (k + 1) os K ⟨put f d (aQ f x), rows, bK, aO⟩) := HH
theorem acI {c a b : Operand} : go (aN E ops clk k (⟨d, .pick c a b, ty, pos, af, none⟩ :: os) K ⟨f, rows, bK, aO⟩) = gJ (aQ f c) true (aN E ops clk (k + 1) os K ⟨put f d (aQ f a), rows, bK, aO⟩) (aN E ops clk (k + 1) os K ⟨put f d (aQ f b), rows, bK, aO⟩) := S7
theorem ahO {op : BinOp} {t t2 : TypeId} {x y : Operand} : go (aN E ops clk k (⟨d, .binOp op t x y t2, ty, pos, af, none⟩ :: os) K ⟨f, rows, bK, aO⟩) = aU (fun v => D4 E op t (aQ f x) (aQ f y) v) fun v => aN E ops clk (k + 1) os K ⟨put f d v, rows, bK, aO⟩ := XL
theorem amL {op : UnOp} {t : TypeId} {x : Operand} : go (aN E ops clk k (⟨d, .unOp op t x, ty, pos, af, none⟩ :: os) K ⟨f, rows, bK, aO⟩) = aU (fun v => yun op (aQ f x) v) fun v => aN E ops clk (k + 1) os K ⟨put f d v, rows, bK, aO⟩ := acv
theorem acJ {s t : TypeId} {x : Operand} : go (aN E ops clk k (⟨d, .convert s t x, ty, pos, af, none⟩ :: os) K ⟨f, rows, bK, aO⟩) = aU (fun v => qW (E.ty s) (E.ty t) (aQ f x) v) fun v => aN E ops clk (k + 1) os K ⟨put f d v, rows, bK, aO⟩ := S8
theorem MP {i : Nat} {x : Operand} : go (aN E ops clk k (⟨d, .extract x i, ty, pos, af, none⟩ :: os) K ⟨f, rows, bK, aO⟩) = sX i (aQ f x) fun v => aN E ops clk (k + 1) os K ⟨put f d v, rows, bK, aO⟩ := by
 show aN E ops clk k (⟨d, .extract x i, ty, pos, af, none⟩ :: os) K ⟨f, rows, bK, aO⟩ = _
 rw [EN, CQ]
theorem acK {t : TypeId} {x : Operand} : go (aN E ops clk k (⟨d, .load t x, ty, pos, af, none⟩ :: os) K ⟨f, rows, bK, aO⟩) = jO E t (dJ .any ops k aO rows) (aQ f x) fun v => aN E ops clk (k + 1) os K ⟨put f d v, rows, j2 k (aZ (aQ f x)) bK, aO⟩ := MN
theorem X1 {t : TypeId} {i : Nat} {x : Operand} : go (aN E ops clk k (⟨d, .field t x i, ty, pos, af, none⟩ :: os) K ⟨f, rows, bK, aO⟩) = i0 (E.ty t) i (aQ f x) fun v => aN E ops clk (k + 1) os K ⟨put f d v, rows, bK, aO⟩ := HR
theorem EX {t : TypeId} {i : Nat} {x : Operand} : go (aN E ops clk k (⟨d, .fieldAddr t x i, ty, pos, af, none⟩ :: os) K ⟨f, rows, bK, aO⟩) = cY (E.ty t) (dJ .any ops k aO rows) i (aQ f x) fun v => aN E ops clk (k + 1) os K ⟨put f d v, rows, j2 k (aZ (aQ f x)) bK, aO⟩ := xA
theorem EY {t : TypeId} {x y : Operand} : go (aN E ops clk k (⟨d, .indexAddr t x y, ty, pos, af, none⟩ :: os) K ⟨f, rows, bK, aO⟩) = bS (E.ty t) (dJ .any ops k aO rows) (aQ f x) (aQ f y) fun v => aN E ops clk (k + 1) os K ⟨put f d v, rows, j2 k (aZ (aQ f x)) bK, aO⟩ := xB
theorem X3 {t : TypeId} {x : Operand} {lo hi mx : Option Operand} : go (aN E ops clk k (⟨d, .slice t x lo hi mx, ty, pos, af, none⟩ :: os) K ⟨f, rows, bK, aO⟩) = eN (E.ty t) (dJ .any ops k aO rows) (aQ f x) (lo.map (aQ f)) (hi.map (aQ f)) (mx.map (aQ f)) fun v => aN E ops clk (k + 1) os K ⟨put f d v, rows, j2 k (aZ (aQ f x)) bK, aO⟩ := HS
theorem X4 {t : TypeId} {parts : Array (Nat × Operand)} : go (aN E ops clk k (⟨d, .build t parts, ty, pos, af, none⟩ :: os) K ⟨f, rows, bK, aO⟩) = jY (E.ty t) (parts.toList.map fun x => (x.1, aQ f x.2)) fun v => aN E ops clk (k + 1) os K ⟨put f d v, rows, bK, aO⟩ := by
 show aN E ops clk k (⟨d, .build t parts, ty, pos, af, none⟩ :: os) K ⟨f, rows, bK, aO⟩ = _
 rw [MG, wB]
theorem HX {x : Operand} : go (aN E ops clk k (⟨d, .nilCheck x, ty, pos, af, none⟩ :: os) K ⟨f, rows, bK, aO⟩) = rC (dJ .any ops k aO rows) (aQ f x) fun v => aN E ops clk (k + 1) os K ⟨put f d v, rows, j2 k (aZ (aQ f x)) bK, aO⟩ := by show aN E ops clk k _ K _ = _; rw [BM, CM]
theorem ahP {t : TypeId} {x : Operand} : go (aN E ops clk k (⟨d, .call { callee := .builtin .len, args := ⟨[x]⟩, argTypes := ⟨[t]⟩ }, ty, pos, af, none⟩ :: os) K ⟨f, rows, bK, aO⟩) = kF (E.ty t) (dJ .any ops k aO rows) (aQ f x) fun v => aN E ops clk (k + 1) os K ⟨put f d v, rows, j2 k (aZ (aQ f x)) bK, aO⟩ := TD
theorem ahQ {ts : Array TypeId} {x y : Operand} : go (aN E ops clk k (⟨d, .call { callee := .builtin .max, args := ⟨[x, y]⟩, argTypes := ts }, ty, pos, af, none⟩ :: os) K ⟨f, rows, bK, aO⟩) = aU (fun v => K8 (aQ f x) (aQ f y) v) fun v => aN E ops clk (k + 1) os K ⟨put f d v, rows, bK, aO⟩ := XN
theorem ahR {ts : Array TypeId} {x y : Operand} : go (aN E ops clk k (⟨d, .call { callee := .builtin .min, args := ⟨[x, y]⟩, argTypes := ts }, ty, pos, af, none⟩ :: os) K ⟨f, rows, bK, aO⟩) = aU (fun v => K9 (aQ f x) (aQ f y) v) fun v => aN E ops clk (k + 1) os K ⟨put f d v, rows, bK, aO⟩ := XO
theorem BQ {t : TypeId} {len : Nat} {parts : Array (Nat × Operand)} : go (aN E ops clk k (⟨d, .buildSlice t len parts, ty, pos, af, none⟩ :: os) K ⟨f, rows, bK, aO⟩) = sW (E.ty t) (dJ .any ops k aO rows) len (parts.toList.map fun x => (x.1, aQ f x.2)) fun v => aN E ops clk (k + 1) os K ⟨put f d v, rows, bK, aO⟩ := by
 show aN E ops clk k (⟨d, .buildSlice t len parts, ty, pos, af, none⟩ :: os) K ⟨f, rows, bK, aO⟩ = _
 rw [w7, CP]
theorem X5 {t : TypeId} {p x : Operand} : go (aN E ops clk k (⟨none, .store t p x, ty, pos, af, none⟩ :: os) K ⟨f, rows, bK, aO⟩) = i3 E t (dJ .any ops k aO rows) (aQ f p) (aQ f x) fun id r => aH (yS .any ops k id bK) (aN E ops clk (k + 1) os K ⟨f, dC rows id (some r), j2 k (aZ (aQ f p) ++ ((bO (aQ f x)).getD []).flatMap aZ) bK, nN k id aO⟩) := HT
theorem X6 {t : TypeId} : go (aN E ops clk k (⟨d, .alloc t, ty, pos, af, none⟩ :: os) K ⟨f, rows, bK, aO⟩) = aH ((E.ty t).known = true ∧ yS .any ops k (d.getD 0) bK) (aN E ops (clk + 1) (k + 1) os K ⟨put f d (.ptr (d.getD 0) clk 0 0), dC rows (d.getD 0) (some ⟨clk, t, (E.ty t).size, [(E.ty t).zero]⟩), bK, nN k (d.getD 0) aO⟩) := MI
theorem ahS {t : TypeId} {x : Operand} : go (aN E ops clk k (⟨d, .box t x, ty, pos, af, none⟩ :: os) K ⟨f, rows, bK, aO⟩) = aH ((E.ty t).known = true) (eJ (bO (aQ f x)) fun l => aH (fU (fun _ => none) l ∧ l.length = (E.ty t).size ∧ yS .any ops k (d.getD 0) bK) (aN E ops (clk + 1) (k + 1) os K ⟨put f d (.ptr (d.getD 0) clk 0 0), dC rows (d.getD 0) (some ⟨clk, t, (E.ty t).size, [l]⟩), bK, nN k (d.getD 0) aO⟩)) := by
 show aN E ops clk k (⟨d, .box t x, ty, pos, af, none⟩ :: os) K ⟨f, rows, bK, aO⟩ = _
 rw [XQ]
 simp only [aH, eJ, fU]
theorem EZ {t : TypeId} {l c : Operand} : go (aN E ops clk k (⟨d, .makeSlice t l c, ty, pos, af, none⟩ :: os) K ⟨f, rows, bK, aO⟩) = o0 (E.ty t) (aQ f l) (aQ f c) fun e n z x => aH (yS .any ops k (d.getD 0) bK) (aN E ops (clk + 1) (k + 1) os K ⟨put f d (.own (d.getD 0) clk 0 x.toNat), dC rows (d.getD 0) (some ⟨clk, e, n, List.replicate x.toNat z⟩), bK, nN k (d.getD 0) aO⟩) := y7
def rE (t : TI) (rows : Rows) (x y : PV) (clk d : Nat) (K : PV → Nat → Row → Prop) : Prop :=
 match t with
 | .slice e n b _ => jE rows y fun l => aH (bB n l) (match x with
  | .nil => aH (l.length ≤ room ∧ l.length * b ≤ room) (K (.own d clk 0 l.length) d ⟨clk, e, n, l⟩)
  | .own id ver off len => bJ (rows id) ver fun r => aH (off = 0 ∧ len = r.els.length ∧ r.e = e ∧ r.size = n) (aH (len + l.length ≤ room ∧ (len + l.length) * b ≤ room) (K (.own id clk 0 (len + l.length)) id ⟨clk, e, n, r.els ++ l⟩))
  | _ => False)
 | _ => False
@[congr] theorem afw {t t' : TI} {rows rows' : Rows} {x x' y y' : PV} {clk d : Nat} {K : PV → Nat → Row → Prop} (h1 : t = t') (h2 : rows = rows') (h3 : x = x') (h4 : y = y') :
  rE t rows x y clk d K = rE t' rows' x' y' clk d K := by rw [h1, h2, h3, h4]
@[simp] theorem akJ {e : TypeId} {n b : Nat} {z : List PV} {rows : Rows} {y : PV} {clk d : Nat} {K : PV → Nat → Row → Prop} : rE (.slice e n b z) rows .nil y clk d K = jE rows y fun l => aH (bB n l) (aH (l.length ≤ room ∧ l.length * b ≤ room) (K (.own d clk 0 l.length) d ⟨clk, e, n, l⟩)) := rfl
@[simp] theorem akK {e : TypeId} {n b : Nat} {z : List PV} {rows : Rows} {y : PV} {clk d id ver off len : Nat} {K : PV → Nat → Row → Prop} : rE (.slice e n b z) rows (.own id ver off len) y clk d K = jE rows y fun l => aH (bB n l) (bJ (rows id) ver fun r => aH (off = 0 ∧ len = r.els.length ∧ r.e = e ∧ r.size = n) (aH (len + l.length ≤ room ∧ (len + l.length) * b ≤ room) (K (.own id clk 0 (len + l.length)) id ⟨clk, e, n, r.els ++ l⟩))) := rfl
@[simp] theorem amM (t : TI) (r : Rows) (x y : PV) (c d : Nat) (K : PV → Nat → Row → Prop) : go (rE t r x y c d K) = rE t r x y c d K := rfl
theorem X7 {t : TI} {rows : Rows} {x y : PV} {clk d : Nat} {K : PV → Nat → Row → Prop} : (∃ v id r, oY t rows x y clk d v (some (id, r)) ∧ K v id r) = rE t rows x y clk d K := by
 cases t with
 | slice e n b z =>
  simp only [rE, oY]
  rw [← PW]
  apply propext
  cases x with
  | nil =>
   simp only [aH, bB]
   constructor
   ·rintro ⟨v, id, r, ⟨l, h1, h2, h3, h4, rfl, h5⟩, h6⟩
    cases h5
    exact ⟨l, h1, h2, ⟨h3, h4⟩, h6⟩
   ·rintro ⟨l, h1, h2, ⟨h3, h4⟩, h6⟩
    exact ⟨_, _, _, ⟨l, h1, h2, h3, h4, rfl, rfl⟩, h6⟩
  | own id ver off len =>
   simp only [aH, bB, bJ]
   constructor
   ·rintro ⟨v, iS, r', ⟨l, h1, h2, r, h3, h4, h5, h6, h7, h8, h9, h10, rfl, h11⟩, h12⟩
    cases h11
    exact ⟨l, h1, h2, r, h3, h4, ⟨h5, h6, h7, h8⟩, ⟨h9, h10⟩, h12⟩
   ·rintro ⟨l, h1, h2, r, h3, h4, ⟨h5, h6, h7, h8⟩, ⟨h9, h10⟩, h12⟩
    exact ⟨_, _, _, ⟨l, h1, h2, r, h3, h4, h5, h6, h7, h8, h9, h10, rfl, rfl⟩, h12⟩
  | _ => simp [aH]
 | _ => simp [rE, oY]
theorem TG {t t2 : TypeId} {x y : Operand} : go (aN E ops clk k (⟨d, .call { callee := .builtin .append, args := ⟨[x, y]⟩, argTypes := ⟨[t, t2]⟩ }, ty, pos, af, none⟩ :: os) K ⟨f, rows, bK, aO⟩) =
  aH (t2 = t ∨ WG (E.ty t2) = true) (rE (E.ty t) (dJ .any ops k aO rows) (aQ f x) (aQ f y) clk (d.getD 0) fun v id r => aH (yS .any ops k id bK) (aN E ops (clk + 1) (k + 1) os K ⟨put f d v, dC rows id (some r), j2 k (aZ (aQ f x) ++ aZ (aQ f y)) bK, nN k id aO⟩)) := by
 show aN E ops clk k (⟨d, .call { callee := .builtin .append, args := ⟨[x, y]⟩, argTypes := ⟨[t, t2]⟩ }, ty, pos, af, none⟩ :: os) K ⟨f, rows, bK, aO⟩ = _
 rw [HI]
 congr 1
 exact X7
theorem X8 {s : Tmp} {args : Array Operand} {ts : Array TypeId} : go (aN E ops clk k (⟨d, .call { callee := .value (.tmp s), args := args, argTypes := ts }, ty, pos, af, none⟩ :: os) K ⟨f, rows, bK, aO⟩) = nO E (f s) (args.toList.map (aQ f)) (dJ .any ops k aO rows) fun v => aN E ops clk (k + 1) os K ⟨put f d v, rows, bK, aO⟩ := CK rfl
def p7 (P : Program) (g : FuncId) (args : List PV) (c : Prop) (K : TypeId → Nat → List (List PV) → Prop) : Prop := ∃ e n els, (args.all eW = true ∧ gD P g args e n els ∧ c) ∧ K e n els
@[congr] theorem abP {P : Program} {g : FuncId} {args HG : List PV} {c c' : Prop} {K : TypeId → Nat → List (List PV) → Prop} (h : args = HG) (hc : c = c') : p7 P g args c K = p7 P g HG c' K := by rw [h, hc]
@[simp] theorem ahT {P : Program} {g : FuncId} {args : List PV} {c : Prop} {K : TypeId → Nat → List (List PV) → Prop} : go (p7 P g args c K) = p7 P g args c K := rfl
theorem CS {P : Program} {g : FuncId} {args : List PV} {c : Prop} {K : TypeId → Nat → List (List PV) → Prop} {e : TypeId} {n : Nat} {els : List (List PV)} (h : gD P g args e n els) (hp : args.all eW = true) (hc : c) (hK : go (K e n els)) : p7 P g args c K := ⟨e, n, els, ⟨hp, h, hc⟩, hK⟩
theorem X9 {g : FuncId} {args : Array Operand} {ts : Array TypeId} : go (aN E ops clk k (⟨d, .call { callee := .value (.func g), args := args, argTypes := ts }, ty, pos, af, none⟩ :: os) K ⟨f, rows, bK, aO⟩) =
  if E.writes g = true then p7 E.P g (args.toList.map (aQ f)) (yS .any ops k (d.getD 0) bK) (fun e n els => aN E ops (clk + 1) (k + 1) os K ⟨put f d (.own (d.getD 0) clk 0 els.length), dC rows (d.getD 0) (some ⟨clk, e, n, els⟩), bK, nN k (d.getD 0) aO⟩)
  else nO E (.fn g []) (args.toList.map (aQ f)) (dJ .any ops k aO rows) fun v => aN E ops clk (k + 1) os K ⟨put f d v, rows, bK, aO⟩ := by
 split
 ·rename_i hw; exact MJ hw
 ·rename_i hw; exact CK (by simpa [cT] using hw)
theorem HY {g : FuncId} {bQ : Array Operand} : go (aN E ops clk k (⟨d, .makeFunc (.func g) ⟨[]⟩ bQ, ty, pos, af, none⟩ :: os) K ⟨f, rows, bK, aO⟩) = aH ((bQ.toList.map fun x => aQ f x).all eW = true) (aN E ops clk (k + 1) os K ⟨put f d (.fn g (bQ.toList.map fun x => aQ f x)), rows, bK, aO⟩) := BN
theorem YA {op : Op} {j : Nat} {want : Bool} : go (aN E ops clk k (⟨d, op, ty, pos, af, some (j, want)⟩ :: os) K ⟨f, rows, bK, aO⟩) = nP (BO ops j) f want (aN E ops clk k (⟨d, op, ty, pos, af, none⟩ :: os) K ⟨f, rows, bK, aO⟩) (aN E ops clk (k + 1) os K ⟨put f d (.eA []), rows, bK, aO⟩) := by
 rw [ER, ← HN]; rfl
theorem YB {σ : PS} : go (aL E ops [] K σ) = K σ := rfl
theorem ahU {st : ST} : go (aN E ops clk k [] K st) = go (K ⟨st.f, st.rows, clk⟩) := rfl
@[simp] theorem P3 {s : Nat} : aQ f (.tmp s) = f s := rfl
@[simp] theorem amO {g : FuncId} : aQ f (.func g) = .fn g [] := rfl
@[simp] theorem TH {v : Value} : aQ f (.const v) = mD v := rfl
end
@[simp] theorem ahV {k : IntKind} {n : Int} : mD (.int k n) = .int k n := rfl
@[simp] theorem afx {b : Bool} : mD (.bool b) = .bool b := rfl
@[simp] theorem MQ {s : ByteArray} : mD (.string s) = .str s := rfl
@[simp] theorem afy : mD (.pointer none) = .gZ := rfl
@[simp] theorem afz : iA (.pointer none) = .gZ := rfl
@[simp] theorem ahW : mD (.slice none 0 0) = .nil := rfl
@[simp] theorem ahX {cs : List Value} : mD (.agg ⟨cs⟩) = .ag (cs.map iA) := rfl
@[simp] theorem ahY {k : IntKind} {n : Int} : iA (.int k n) = .int k n := rfl
@[simp] theorem afA {b : Bool} : iA (.bool b) = .bool b := rfl
@[simp] theorem ahZ {s : ByteArray} : iA (.string s) = .str s := rfl
@[simp] theorem ah0 : iA (.slice none 0 0) = .nil := rfl
@[simp] theorem amP (R K : PV → Prop) : go (aU R K) = aU R K := rfl
@[simp] theorem amQ (p : PV) (w : Bool) (A B : Prop) : go (stepG p w A B) = stepG p w A B := rfl
@[simp] theorem amR (p : PV) (w : Bool) (A B : Prop) : go (gJ p w A B) = gJ p w A B := rfl
@[simp] theorem amS (A B : Prop) : go (aH A B) = aH A B := rfl
@[simp] theorem amT (P : Program) (g : FuncId) (l : List PV) (K : PV → Prop) : go (sU P g l K) = sU P g l K := rfl
@[simp] theorem ah1 (o : Option Row) (v : Nat) (K : Row → Prop) : go (bJ o v K) = bJ o v K := rfl
@[simp] theorem asj (l : List (List PV)) (i : Nat) (K : List PV → Prop) : go (CL l i K) = CL l i K := rfl
@[simp] theorem asl (t : TI) (l : List PV) (j : Nat) (K : PV → Prop) : go (vW t l j K) = vW t l j K := rfl
@[simp] theorem akM (E : Env) (t : TypeId) (r : Rows) (p : PV) (K : PV → Prop) : go (jO E t r p K) = jO E t r p K := rfl
@[simp] theorem ah2 (t : TI) (i : Nat) (x : PV) (K : PV → Prop) : go (i0 t i x K) = i0 t i x K := rfl
@[simp] theorem aqb (p : Nat × Nat × Bool) (l : List PV) (K : PV → Prop) : go (EO p l K) = EO p l K := rfl
@[simp] theorem amU (r : Rows) (x : PV) (K : PV → Prop) : go (rC r x K) = rC r x K := rfl
@[simp] theorem YC (t : TI) (r : Rows) (i : Nat) (x : PV) (K : PV → Prop) : go (cY t r i x K) = cY t r i x K := rfl
@[simp] theorem YD (t : TI) (r : Rows) (x y : PV) (K : PV → Prop) : go (bS t r x y K) = bS t r x y K := rfl
@[simp] theorem asm (d : Nat) (o : Option PV) (K : Nat → Prop) : go (vY d o K) = vY d o K := rfl
@[simp] theorem ah3 (t : TI) (r : Rows) (x : PV) (a b c : Option PV) (K : PV → Prop) : go (eN t r x a b c K) = eN t r x a b c K := rfl
@[simp] theorem amV (t : TI) (r : Rows) (x : PV) (K : PV → Prop) : go (kF t r x K) = kF t r x K := rfl
@[simp] theorem ah4 (E : Env) (t : TypeId) (r : Rows) (p x : PV) (K : Nat → Row → Prop) : go (i3 E t r p x K) = i3 E t r p x K := rfl
@[simp] theorem amW (r : Rows) (y : PV) (K : List (List PV) → Prop) : go (jE r y K) = jE r y K := rfl
@[simp] theorem amX (t : TI) (r : Rows) (x y : PV) (c d : Nat) (K : PV → Rows → Nat → Prop) : go (o7 t r x y c d K) = o7 t r x y c d K := rfl
@[simp] theorem amY (t : TI) (x y : PV) (K : TypeId → Nat → List PV → Int → Prop) : go (o0 t x y K) = o0 t x y K := rfl
@[simp] theorem akN (E : Env) (p : PV) (l : List PV) (r : Rows) (clk : Nat) (K : PV → Rows → Nat → Prop) : go (o6 E p l r clk K) = o6 E p l r clk K := rfl
@[simp] theorem amZ (P : Program) (g : FuncId) (l : List PV) (r : Rows) (clk : Nat) (K : PV → Rows → Nat → Prop) : go (vN P g l r clk K) = vN P g l r clk K := rfl
@[simp] theorem akO (E : Env) (p : PV) (l : List PV) (r : Rows) (K : PV → Prop) : go (nO E p l r K) = nO E p l r K := rfl
@[simp] theorem am0 {fs : List (Nat × Nat × Bool)} {ps : List (Nat × PV)} {z : List PV} {K : List PV → Prop} : go (kW fs ps z K) = kW fs ps z K := rfl
@[simp] theorem ah5 {t : TI} {ps : List (Nat × PV)} {K : PV → Prop} : go (jY t ps K) = jY t ps K := rfl
@[simp] theorem akP {n k : Nat} {ps : List (Nat × PV)} {K : List (List PV) → Prop} : go (iC n k ps K) = iC n k ps K := rfl
@[simp] theorem am1 {t : TI} {rows : Rows} {len : Nat} {ps : List (Nat × PV)} {K : PV → Prop} : go (sW t rows len ps K) = sW t rows len ps K := rfl
@[simp] theorem am2 {i : Nat} {x : PV} {K : PV → Prop} : go (sX i x K) = sX i x K := rfl
@[simp] theorem aqc {α : Type} (o : Option α) (K : α → Prop) : go (eJ o K) = eJ o K := rfl
@[simp] theorem au9 {α : Type} (p : α → Prop) : go (∃ x, p x) = ∃ x, go (p x) := rfl
@[simp] theorem am3 : go False = False := rfl
@[simp] theorem ava {p : Prop} : go (go p) = go p := rfl
@[simp] theorem afB {t : PV} {K : PV → Prop} : aU (fun v => v = t) K = go (K t) := iZ
@[simp] theorem asn {t : PV} {K : PV → Prop} : aU (fun v => t = v) K = go (K t) := SW
@[simp] theorem acL {B : Prop} : aH True B = go B := L4
@[simp] theorem avb {A B : Prop} : stepG (.bool true) true A B = go A := W9
@[simp] theorem avc {A B : Prop} : stepG (.bool true) false A B = go B := XA
@[simp] theorem avd {A B : Prop} : stepG (.bool false) true A B = go B := XB
@[simp] theorem ave {A B : Prop} : stepG (.bool false) false A B = go A := XC
@[simp] theorem avf {w : Bool} {A B : Prop} : stepG (.eA []) w A B = go B := XD
@[simp] theorem avg {A B : Prop} : gJ (.bool true) true A B = go A := W6
@[simp] theorem avh {A B : Prop} : gJ (.bool true) false A B = go B := W7
@[simp] theorem avi {A B : Prop} : gJ (.bool false) true A B = go B := W8
@[simp] theorem avj {A B : Prop} : gJ (.bool false) false A B = go A := XE
theorem gA {c B : Prop} (h : c) : aH c B = go B := by simp [aH, go, h]
attribute [simp] iK W5 yY XF ahu L5 EL PZ CR acE XU amK ET MO acF XV EU EV XW XX HU HV HX ahK ahL ahM BP XY XZ ahN EW TE acG HW X0 acH TF acI ahO amL acJ MP acK X1 EX EY X3 X4 ahP ahQ ahR BQ X5 X6 ahS EZ TG X8 X9 HY YA YB ahU
attribute [simp] WG D4 yun qW rJ K8 K9 o0 o6 nO qV TI.known TI.size TI.zero TI.agg WY acr HC room
theorem BR {E : Env} {ops : List Oper} {K : PS → Prop} {f : Nat → PV} {rows : Rows} {clk : Nat} : fN E 0 ops K ⟨f, rows, clk⟩ = aN E ops clk 0 ops K ⟨f, rows, fun _ _ => False, fun _ _ => False⟩ := by simp [fN]
@[simp] theorem akQ {b : Bool} : eW (.bool b) = true := rfl
@[simp] theorem ah6 {b : Bool} : bW (.bool b) = true := rfl
@[simp] theorem akR {b : Bool} : aZ (.bool b) = [] := rfl
@[simp] theorem akS {rows : Rows} {b : Bool} : gS rows (.bool b) = True := rfl
@[simp] theorem afC {b : Bool} : bO (.bool b) = some [.bool b] := rfl
@[simp] theorem afD {b : Bool} : dX (.bool b) = some [.bool b] := rfl
@[simp] theorem am4 {k : IntKind} {n : Int} : eW (.int k n) = true := rfl
@[simp] theorem akT {k : IntKind} {n : Int} : bW (.int k n) = true := rfl
@[simp] theorem am5 {k : IntKind} {n : Int} : aZ (.int k n) = [] := rfl
@[simp] theorem am6 {rows : Rows} {k : IntKind} {n : Int} : gS rows (.int k n) = True := rfl
@[simp] theorem ah7 {k : IntKind} {n : Int} : bO (.int k n) = some [.int k n] := rfl
@[simp] theorem ah8 {k : IntKind} {n : Int} : dX (.int k n) = some [.int k n] := rfl
@[simp] theorem am7 {s : ByteArray} : eW (.str s) = true := rfl
@[simp] theorem akU {s : ByteArray} : bW (.str s) = true := rfl
@[simp] theorem am8 {s : ByteArray} : aZ (.str s) = [] := rfl
@[simp] theorem am9 {rows : Rows} {s : ByteArray} : gS rows (.str s) = True := rfl
@[simp] theorem ah9 {s : ByteArray} : bO (.str s) = some [.str s] := rfl
@[simp] theorem aia {s : ByteArray} : dX (.str s) = some [.str s] := rfl
@[simp] theorem akV  : eW .gZ = true := rfl
@[simp] theorem aib  : bW .gZ = true := rfl
@[simp] theorem akW  : aZ .gZ = [] := rfl
@[simp] theorem akX  : dA .gZ = [] := rfl
@[simp] theorem aqd {rows : Rows} : fz rows .gZ = .gZ := rfl
@[simp] theorem aqe {rows : Rows} : pz rows .gZ = .gZ := rfl
@[simp] theorem akY {rows : Rows}  : gS rows .gZ = True := rfl
@[simp] theorem afE  : bO .gZ = some [.gZ] := rfl
@[simp] theorem afF  : dX .gZ = some [.gZ] := rfl
@[simp] theorem ana  : eW .nil = true := rfl
@[simp] theorem akZ  : bW .nil = true := rfl
@[simp] theorem anb  : aZ .nil = [] := rfl
@[simp] theorem anc {rows : Rows}  : gS rows .nil = True := rfl
@[simp] theorem aic  : bO .nil = some [.nil] := rfl
@[simp] theorem aid  : dX .nil = some [.nil] := rfl
@[simp] theorem aqf {l : List (List PV)} : eW (.sl l) = true := rfl
@[simp] theorem ane {l : List (List PV)} : bW (.sl l) = true := rfl
@[simp] theorem aqg {l : List (List PV)} : aZ (.sl l) = [] := rfl
@[simp] theorem aqh {rows : Rows} {l : List (List PV)} : gS rows (.sl l) = True := rfl
@[simp] theorem ak0 {l : List (List PV)} : bO (.sl l) = some [.sl l] := rfl
@[simp] theorem ak1 {l : List (List PV)} : dX (.sl l) = some [.sl l] := rfl
@[simp] theorem anf {l : List (List PV)} : eW (.iV l) = true := rfl
@[simp] theorem ak2 {l : List (List PV)} : bW (.iV l) = true := rfl
@[simp] theorem ang {l : List (List PV)} : aZ (.iV l) = [] := rfl
@[simp] theorem anh {rows : Rows} {l : List (List PV)} : gS rows (.iV l) = True := rfl
@[simp] theorem aie {l : List (List PV)} : bO (.iV l) = some [.iV l] := rfl
@[simp] theorem aif {l : List (List PV)} : dX (.iV l) = some [.iV l] := rfl
@[simp] theorem acM {l : List PV} : eW (.rd l) = true := rfl
@[simp] theorem YE {l : List PV} : bW (.rd l) = true := rfl
@[simp] theorem acN {l : List PV} : aZ (.rd l) = [] := rfl
@[simp] theorem aqi {rows : Rows} {l : List PV} : gS rows (.rd l) = True := rfl
@[simp] theorem ak3 {l : List PV} : bO (.rd l) = some [.rd l] := rfl
@[simp] theorem ak4 {l : List PV} : dX (.rd l) = some [.rd l] := rfl
@[simp] theorem aqj {f : FuncId} {l : List PV} : eW (.fn f l) = true := rfl
@[simp] theorem ani {f : FuncId} {l : List PV} : bW (.fn f l) = true := rfl
@[simp] theorem aqk {f : FuncId} {l : List PV} : aZ (.fn f l) = [] := rfl
@[simp] theorem aql {rows : Rows} {f : FuncId} {l : List PV} : gS rows (.fn f l) = True := rfl
@[simp] theorem ak5 {f : FuncId} {l : List PV} : bO (.fn f l) = some [.fn f l] := rfl
@[simp] theorem ak6 {f : FuncId} {l : List PV} : dX (.fn f l) = some [.fn f l] := rfl
@[simp] theorem aqm {l : List PV} : eW (.ag l) = l.all bW := rfl
@[simp] theorem anj {l : List PV} : eW (.eA l) = true := rfl
@[simp] theorem ak7 {l : List PV} : bO (.ag l) = some l := rfl
@[simp] theorem ak8 {l : List PV} : dX (.ag l) = some l := rfl
@[simp] theorem ank {id v o l : Nat} : aZ (.own id v o l) = [id] := rfl
@[simp] theorem anl {id v o l : Nat} : aZ (.ptr id v o l) = [id] := rfl
@[simp] theorem aih {id v o l : Nat} : bO (.own id v o l) = some [.own id v o l] := rfl
@[simp] theorem aii {id v o l : Nat} : bO (.ptr id v o l) = some [.ptr id v o l] := rfl
def rowAt (o : Option Row) (ver : Nat) : Prop := ∃ r, o = some r ∧ r.ver = ver
@[simp] theorem aij {r : Row} {ver : Nat} : rowAt (some r) ver = (r.ver = ver) := by simp [rowAt]
@[simp] theorem anm {rows : Rows} {id v o l : Nat} : gS rows (.own id v o l) = rowAt (rows id) v := rfl
@[simp] theorem ann {rows : Rows} {id v o l : Nat} : gS rows (.ptr id v o l) = rowAt (rows id) v := rfl
@[simp] theorem ak9 {e l : List PV} {j : Nat} : gK [e] 0 j l = [e.take j ++ l ++ e.drop (j + l.length)] := by simp [gK]
@[simp] theorem ala {e : List PV} {n : Nat} : rD [e] 0 n = (n ≤ e.length) := by simp [rD]
@[simp] theorem alb {E : Env} {σ : PS} {t : Tmp} {rs : List ResultVar} {K : List PV → Prop} : oA E σ (.tmp t :: rs) K = oA E σ rs fun vs => K (σ.f t :: vs) := rfl
@[simp] theorem alc {E : Env} {σ : PS} {K : List PV → Prop} : oA E σ [] K = K [] := rfl
@[simp] theorem aik {E : Env} {σ : PS} {a : Tmp} {t : TypeId} {rs : List ResultVar} {K : List PV → Prop} : oA E σ (.cell a t :: rs) K = jO E t σ.rows (σ.f a) fun v => oA E σ rs fun vs => K (v :: vs) := by
 show (∃ v, qU E t σ.rows (σ.f a) v ∧ oA E σ rs fun vs => K (v :: vs)) = _
 rw [← rQ]; rfl
@[simp] theorem acO {E : Env} {ops : List Oper} {K : PS → Prop} {f : Nat → PV} {rows : Rows} {clk : Nat} : go (fN E 0 ops K ⟨f, rows, clk⟩) = go (aN E ops clk 0 ops K ⟨f, rows, fun _ _ => False, fun _ _ => False⟩) := BR
theorem wrap_i64 {n : Int} (h1 : -9223372036854775808 ≤ n) (h2 : n < 9223372036854775808) : IntKind.i64.wrap n = n := by
 have e : IntKind.i64.wrap n = if n % 18446744073709551616 ≥ 9223372036854775808 then n % 18446744073709551616 - 18446744073709551616 else n % 18446744073709551616 := by
  simp [IntKind.wrap, IntKind.bits, IntKind.signed]
 rw [e]
 split <;> omega
theorem wrap_u64 {n : Int} (h1 : 0 ≤ n) (h2 : n < 18446744073709551616) : IntKind.u64.wrap n = n := by
 simp only [IntKind.wrap, IntKind.bits, IntKind.signed, Bool.false_and, Bool.false_eq_true, if_false]
 omega
theorem wrap_u32 {n : Int} (h1 : 0 ≤ n) (h2 : n < 4294967296) : IntKind.u32.wrap n = n := by
 simp only [IntKind.wrap, IntKind.bits, IntKind.signed, Bool.false_and, Bool.false_eq_true, if_false]
 omega
theorem wA : (∀ n : Int, -9223372036854775808 ≤ n → n < 9223372036854775808 → IntKind.i64.wrap n = n) ∧ (∀ n : Int, 0 ≤ n → n < 18446744073709551616 → IntKind.u64.wrap n = n) ∧ (∀ n : Int, 0 ≤ n → n < 4294967296 → IntKind.u32.wrap n = n) ∧
  (∀ a b : Int, 0 ≤ a → a.tdiv b = a / b) ∧ (∀ a b : Int, 0 ≤ a → a.tmod b = a % b) := ⟨fun _ => wrap_i64, fun _ => wrap_u64, fun _ => wrap_u32, fun _ _ h => Int.tdiv_eq_ediv_of_nonneg h, fun _ _ h => Int.tmod_eq_emod_of_nonneg h⟩
theorem gw : (∀ {c B : Prop}, c → aH c B = go B) ∧ (∀ n : Int, -9223372036854775808 ≤ n → n < 9223372036854775808 → IntKind.i64.wrap n = n) ∧ (∀ n : Int, 0 ≤ n → n < 18446744073709551616 → IntKind.u64.wrap n = n) ∧ (∀ n : Int, 0 ≤ n → n < 4294967296 → IntKind.u32.wrap n = n) ∧
  (∀ a b : Int, 0 ≤ a → a.tdiv b = a / b) ∧ (∀ a b : Int, 0 ≤ a → a.tmod b = a % b) := ⟨gA, wA⟩
theorem wrap_u8 {n : Int} (h1 : 0 ≤ n) (h2 : n < 256) : IntKind.u8.wrap n = n := by
 simp only [IntKind.wrap, IntKind.bits, IntKind.signed, Bool.false_and, Bool.false_eq_true, if_false]
 omega
theorem iL {n : Int} : IntKind.u64.wrap n = n % 18446744073709551616 := by
 simp only [IntKind.wrap, IntKind.bits, IntKind.signed, Bool.false_and, Bool.false_eq_true, if_false]
 rfl
theorem wrap_u32' {n : Int} : IntKind.u32.wrap n = n % 4294967296 := by
 simp only [IntKind.wrap, IntKind.bits, IntKind.signed, Bool.false_and, Bool.false_eq_true, if_false]
 rfl
section
variable {E : Env} {n : Nat} {tl : Nat → Nat} {Q : PX → PS → Prop} {σ : PS}
theorem W.bY {id : Nat} {ops : List Oper} (h : ∀ K : PS → Prop, (∀ σ, Q .normal σ → K σ) → go (aL E ops ops K σ)) : W E n tl (.region id ops.toArray false) Q σ := W.HD h
theorem W.MR {id : Nat} {ops : List Oper} (h : ∀ K : PS → Prop, (∀ σ, Q .normal σ → K σ) → go (fN E (tl id) ops K σ)) : W E n tl (.region id ops.toArray true) Q σ := W.W2 h
theorem W.dB {id : Nat} {ops : List Oper} {y : Code} (h : ∀ K : PS → Prop, (∀ σ, W E n tl y Q σ → K σ) → go (aL E ops ops K σ)) : W E n tl (.seq (.region id ops.toArray false) y) Q σ := W.L3 h
theorem W.acP {id : Nat} {ops : List Oper} {y : Code} (h : ∀ K : PS → Prop, (∀ σ, W E n tl y Q σ → K σ) → go (fN E (tl id) ops K σ)) : W E n tl (.seq (.region id ops.toArray true) y) Q σ := W.W3 h
end
section
variable {E : Env} {n : Nat} {tl : Nat → Nat} {Q : PX → PS → Prop} {σ : PS}
theorem W.a8 {c : Code} (I : Nat → PS → Prop) (k : Nat) (h0 : ∃ σ0, Gh n σ σ0 ∧ I k σ0) (h1 : ∀ k σ, I k σ → W E n tl c (BI (fun σ' => ∃ m σ'', Gh n σ' σ'' ∧ m < k ∧ I m σ'') Q) σ) : W E n tl (.loop c) Q σ := by
 obtain ⟨σ0, hg, h0⟩ := h0
 refine W.ghost hg ?_
 refine W.loop (fun k σ => ∃ σ', Gh n σ σ' ∧ I k σ') k ⟨σ0, fun _ _ _ _ _ h => h, h0⟩ ?_
 rintro k σ ⟨σ', hg, hI⟩
 refine W.ghost hg (W.mono (h1 k σ' hI) fun x τ hx => ?_)
 cases x with
 | normal => obtain ⟨m, σ'', h2, h3, h4⟩ := hx; exact ⟨m, h3, σ'', h2, h4⟩
 | exit id => exact hx
 | ret => exact hx
theorem Gh.refl : Gh n σ σ := fun _ _ _ _ _ h => h
theorem W.YF {c : Operand} {t e : Code} (b : Prop) [Decidable b] (hc : aQ σ.f c = .bool (decide b)) (h1 : b → W E n tl t Q σ) (h2 : ¬ b → W E n tl e Q σ) : W E n tl (.cond c t e) Q σ := W.cond ⟨_, hc, fun h => h1 (of_decide_eq_true h), fun h => h2 (of_decide_eq_false h)⟩
theorem W.ghf {f : Nat → PV} {rows : Rows} {clk : Nat} {c : Code} (l : List (Nat × PV)) (hl : ∀ p ∈ l, f p.1 = p.2) (h : W E n tl c Q ⟨fa l, rows, clk⟩) : W E n tl c Q ⟨f, rows, clk⟩ := by
 have := aC (f := f) (rows := rows) (clk := clk) n (l.map (·.1))
 have e : ((l.map (·.1)).map fun i => (i, f i)) = l := by
  rw [List.map_map]
  conv => rhs; rw [← List.map_id l]
  exact List.map_congr_left fun p hp => by simp [hl p hp]
 rw [e] at this
 exact W.ghost this h
theorem Gh.fr {f : Nat → PV} {rows : Rows} {clk : Nat} (l : List (Nat × PV)) (hl : ∀ p ∈ l, f p.1 = p.2) : Gh n ⟨f, rows, clk⟩ ⟨fa l, rows, clk⟩ := by
 have := aC (f := f) (rows := rows) (clk := clk) n (l.map (·.1))
 have e : ((l.map (·.1)).map fun i => (i, f i)) = l := by
  rw [List.map_map]
  conv => rhs; rw [← List.map_id l]
  exact List.map_congr_left fun p hp => by simp [hl p hp]
 rw [e] at this
 exact this
end
theorem aB {E : Env} {CJ : FuncId} {fn : Func} {code : Code} (tl : Nat → Nat) {args : List PV} {r : PV} (l : List (Nat × PV)) (h1 : E.P.funcs[CJ]? = some fn) (h2 : fn.body = some code) (h3 : (fn.name == "runtime.NumGoroutine") = false)
  (fJ : dY E fn.ntmps tl code = true) (fM : args.length ≤ fn.ntmps) (hl : ∀ p ∈ l, args.getD p.1 .undef = p.2) (h : W E fn.ntmps tl code (acr E fn.results.toList r) ⟨fa l, fun _ => none, 0⟩) : aK E.P CJ args r :=
 W4 tl h1 h2 h3 fJ fM (W.ghf l (by simpa using hl) h)
end Pm
namespace Pm
@[simp] theorem aqn {a : Int} : Int.fdiv a 4294967296 = a / 4294967296 := Int.fdiv_eq_ediv_of_nonneg a (by decide)
@[simp] theorem aqo {a : Int} : Int.fdiv a 9223372036854775808 = a / 9223372036854775808 := Int.fdiv_eq_ediv_of_nonneg a (by decide)
attribute [simp] Go.IntKind.bits
end Pm
namespace Pm
open Go Go.RowKit
section
variable {E : Env} {n : Nat} {tl : Nat → Nat} {Q : PX → PS → Prop} {σ : PS}
theorem W.fV {x y : Code} (J : PS → Prop) (h : W E n tl x (BI (fun σ => ∃ σ', Gh n σ σ' ∧ J σ') Q) σ) (hy : ∀ σ, J σ → W E n tl y Q σ) : W E n tl (.seq x y) Q σ :=
 W.seq (W.mono h fun x σ hx => by
  cases x with
  | normal => obtain ⟨σ', hg, hJ⟩ := hx; exact W.ghost hg (hy σ' hJ)
  | exit id => exact hx
  | ret => exact hx)
def MS (J : PS → Prop) (Q : PX → PS → Prop) : PX → PS → Prop
 | .normal, σ => J σ
 | .exit id, σ => Q (.exit id) σ
 | .ret, σ => Q .ret σ
theorem W.eK {id : Nat} {x y : Code} (J : PS → Prop) (h : W E n tl x (BJ id (MS (fun σ => ∃ σ', Gh n σ σ' ∧ J σ') Q)) σ) (hy : ∀ σ, J σ → W E n tl y Q σ) : W E n tl (.seq (.block id x) y) Q σ :=
 W.seq (W.block (W.mono h fun x σ hx => by
  cases x with
  | normal => obtain ⟨σ', hg, hJ⟩ := hx; exact W.ghost hg (hy σ' hJ)
  | exit j =>
   simp only [BJ] at hx ⊢
   split
   ·rename_i hj; rw [if_pos hj] at hx; obtain ⟨σ', hg, hJ⟩ := hx; exact W.ghost hg (hy σ' hJ)
   ·rename_i hj; rw [if_neg hj] at hx; exact hx
  | ret => exact hx))
theorem W.gU {id : Nat} {ops : List Oper} {y : Code} (J : PS → Prop) (h : ∀ K : PS → Prop, (∀ σ σ', Gh n σ σ' → J σ' → K σ) → go (aL E ops ops K σ)) (hy : ∀ σ, J σ → W E n tl y Q σ) : W E n tl (.seq (.region id ops.toArray false) y) Q σ :=
 W.dB fun K hK => h K fun σ _ hg hJ => hK σ (W.ghost hg (hy _ hJ))
@[simp] theorem afG {J : PS → Prop} : MS J Q .normal σ = J σ := rfl
@[simp] theorem ano {J : PS → Prop} : MS J Q .ret σ = Q .ret σ := rfl
@[simp] theorem ald {J : PS → Prop} {id : Nat} : MS J Q (.exit id) σ = Q (.exit id) σ := rfl
@[simp] theorem afH {J : PS → Prop} : BI J Q .normal σ = J σ := rfl
@[simp] theorem anp {J : PS → Prop} : BI J Q .ret σ = Q .ret σ := rfl
@[simp] theorem ale {J : PS → Prop} {id : Nat} : BI J Q (.exit id) σ = Q (.exit id) σ := rfl
@[simp] theorem afI {id : Nat} : BJ id Q .normal σ = Q .normal σ := rfl
@[simp] theorem anq {id : Nat} : BJ id Q .ret σ = Q .ret σ := rfl
@[simp] theorem alf {id j : Nat} : BJ id Q (.exit j) σ = if j = id then Q .normal σ else Q (.exit j) σ := rfl
theorem pX : (∀ (Q : PX → PS → Prop) (σ : PS) (id j : Nat), BJ id Q (.exit j) σ = if j = id then Q .normal σ else Q (.exit j) σ) ∧ (∀ (Q : PX → PS → Prop) (σ : PS) (id : Nat), BJ id Q .normal σ = Q .normal σ) ∧ (∀ (Q : PX → PS → Prop) (σ : PS) (id : Nat), BJ id Q .ret σ = Q .ret σ) ∧
  (∀ (J : PS → Prop) (Q : PX → PS → Prop) (σ : PS) (id : Nat), BI J Q (.exit id) σ = Q (.exit id) σ) ∧ (∀ (J : PS → Prop) (Q : PX → PS → Prop) (σ : PS), BI J Q .normal σ = J σ) ∧ (∀ (J : PS → Prop) (Q : PX → PS → Prop) (σ : PS), BI J Q .ret σ = Q .ret σ) ∧
  (∀ (J : PS → Prop) (Q : PX → PS → Prop) (σ : PS) (id : Nat), MS J Q (.exit id) σ = Q (.exit id) σ) ∧ (∀ (J : PS → Prop) (Q : PX → PS → Prop) (σ : PS), MS J Q .normal σ = J σ) ∧ (∀ (J : PS → Prop) (Q : PX → PS → Prop) (σ : PS), MS J Q .ret σ = Q .ret σ) :=
 ⟨fun _ _ _ _ => rfl, fun _ _ _ => rfl, fun _ _ _ => rfl, fun _ _ _ _ => rfl, fun _ _ _ => rfl, fun _ _ _ => rfl, fun _ _ _ _ => rfl, fun _ _ _ => rfl, fun _ _ _ => rfl⟩
end
end Pm
namespace Pm
open Go
theorem anr {P : Program} {g : FuncId} {fG : List PV} {rows : Rows} {clk : Nat} {K : PV → Rows → Nat → Prop} {R : PV → Rows → Nat → Prop} (h : SI P g fG rows clk R) (hK : ∀ r rows' jM, R r rows' jM → go (K r rows' jM)) : vN P g fG rows clk K := ⟨R, h, hK⟩
theorem aA {P : Program} {g : FuncId} {args : List PV} {K : PV → Prop} {v : PV} (h : aK P g args v) (hK : go (K v)) : sU P g args K := ⟨v, h, hK⟩
theorem W.YH {E : Env} {n : Nat} {tl : Nat → Nat} {c : Code} {Q : PX → PS → Prop} {f : Nat → PV} {rows : Rows} {clk : Nat} (l : List Nat) (h : ∀ K : PS → Prop, (∀ σ, W E n tl c Q σ → K σ) → K ⟨fa (l.map fun i => (i, f i)), rows, clk⟩) : W E n tl c Q ⟨f, rows, clk⟩ := W.live l (h _ fun _ h => h)
theorem W.lv {E : Env} {n : Nat} {tl : Nat → Nat} {c : Code} {Q : PX → PS → Prop} {f : Nat → PV} {rows : Rows} {clk : Nat} {K0 : PS → Prop} (l : List Nat) (hK : ∀ σ, W E n tl c Q σ → K0 σ) (h : ∀ K : PS → Prop, (∀ σ, W E n tl c Q σ → K σ) → K ⟨fa (l.map fun i => (i, f i)), rows, clk⟩) : K0 ⟨f, rows, clk⟩ := hK _ (W.YH l h)
inductive Bx (P : PS → Prop) : Type
  | mk
def aW {P : PS → Prop} (_ : Bx P) (σ : PS) : Prop := P σ
theorem W.lw {E : Env} {n : Nat} {tl : Nat → Nat} {c : Code} {Q : PX → PS → Prop} {f : Nat → PV} {rows : Rows} {clk : Nat} {K0 : PS → Prop} (l : List Nat) (hK : ∀ σ, W E n tl c Q σ → K0 σ) (h : aW (Bx.mk (P := W E n tl c Q)) ⟨fa (l.map fun i => (i, f i)), rows, clk⟩) : K0 ⟨f, rows, clk⟩ := hK _ (W.YH l fun _ q => q _ h)
theorem W.lx {E : Env} {n : Nat} {tl : Nat → Nat} {c : Code} {Q : PX → PS → Prop} {f : Nat → PV} {rows : Rows} {clk : Nat} (l : List Nat) (h : aW (Bx.mk (P := W E n tl c Q)) ⟨fa (l.map fun i => (i, f i)), rows, clk⟩) : aW (Bx.mk (P := W E n tl c Q)) ⟨f, rows, clk⟩ := W.YH l fun _ q => q _ h
theorem W.sr {E : Env} {n : Nat} {tl : Nat → Nat} {Q : PX → PS → Prop} {σ : PS} {id : Nat} {ops : List Oper} {y : Code} (h : go (aL E ops ops (aW (Bx.mk (P := W E n tl y Q))) σ)) : W E n tl (.seq (.region id ops.toArray false) y) Q σ := by
  refine W.seq ?_
  intro fJ w0 S0 G a w Q' hR hQ
  simp only [dY, oZ, Bool.and_eq_true] at fJ
  refine wp_region_list (fT (fun σ' a' w' hk j1 => hQ .normal σ' a' w' hk j1) _ σ a w (fun o ho t ht => ?_) h hR)
  have := Array.all_eq_true_iff_forall_mem.1 fJ.1 o (by simpa using ho)
  simpa [ht] using this
theorem W.sd {E : Env} {n : Nat} {tl : Nat → Nat} {Q : PX → PS → Prop} {σ : PS} {id : Nat} {ops : List Oper} {y : Code} (h : go (fN E (tl id) ops (aW (Bx.mk (P := W E n tl y Q))) σ)) : W E n tl (.seq (.region id ops.toArray true) y) Q σ := by
  refine W.seq ?_
  intro fJ w0 S0 G a w Q' hR hQ
  exact rA (by simpa [dY] using fJ) h hR fun σ' a' w' hk j1 => hQ .normal σ' a' w' hk j1
end Pm
namespace Pm
open Go Go.RowKit
def Wk (p q : PV) : Prop := q = p ∨ (p = .nil ∧ q = .sl [])
theorem Wk.rep {c : Cx} {p q : PV} {v : Value} (h : Wk p q) (hr : aP c p v) : aP c q v := by
 rcases h with rfl | ⟨rfl, rfl⟩
 ·exact hr
 ·simp only [aP, cJ] at hr ⊢
  exact ⟨none, 0, by simpa using hr, by simp, by simp, .inl trivial⟩
theorem a7.flat {α β : Type} {R : α → β → Prop} : ∀ {l : List (List α)} {m : List (List β)}, a7 (a7 R) l m → a7 R l.flatten m.flatten
 | [], [], _ => trivial
 | a :: l, b :: m, h => by
  obtain ⟨h1, h2⟩ := h
  have ih := a7.flat h2
  clear h2
  induction a generalizing b with
  | nil => cases b with
   | nil => exact ih
   | cons => exact h1.elim
  | cons x a iha => cases b with
   | nil => exact h1.elim
   | cons y b => exact ⟨h1.1, iha b h1.2⟩
theorem ail {n id ver e m clk : Nat} {f : Nat → PV} {rows : Rows} {els EC : List (List PV)} (hr : rows id = some ⟨ver, e, m, els⟩) (hw : a7 (a7 fun q p => Wk p q) EC els) : Gh n ⟨f, rows, clk⟩ ⟨f, dC rows id (some ⟨ver, e, m, EC⟩), clk⟩ := by
 rintro w0 S0 G a w ⟨⟨c, rfl, sY, eY, hI, hf, hG⟩, h7, h8⟩
 have jI : c.rows id = some ⟨ver, e, m, els⟩ := by rw [sY]; exact hr
 obtain ⟨⟨xs, g1, g2, g3⟩, g4, g5, g6⟩ := hI.row id _ jI
 have hlen : EC.length = els.length := hw.length
 obtain ⟨uF, hA⟩ := hI.dC (w' := c.w) (r' := ⟨ver, e, m, EC⟩) (xs := xs) jI (World.grownBy.refl _ _) (by simp only [hlen]; exact g1)
  (by
   have h1 := a7.flat hw
   have : ∀ {l : List PV} {k : List PV} {vs : List Value}, a7 (fun q p => Wk p q) l k → a7 (aP c) k vs → a7 (aP c) l vs := by
    intro l
    induction l with
    | nil => intro k vs h h'; cases k with
     | nil => exact h'
     | cons => exact h.elim
    | cons x l ih => intro k vs h h'; cases k with
     | nil => exact h.elim
     | cons y k => cases vs with
      | nil => exact h'.elim
      | cons v vs => exact ⟨h.1.rep h'.1, ih h.2 h'.2⟩
   exact this h1 g2) g3 (fun el kP => by
   obtain ⟨k, hk⟩ := List.getElem?_of_mem kP
   obtain ⟨b, hb, h1⟩ := hw.get hk
   rw [h1.length]
   exact g4 b (List.mem_of_getElem? hb)) rfl rfl hlen
 refine ⟨⟨{ c with rows := dC c.rows id (some ⟨ver, e, m, EC⟩) }, rfl, by simp [sY], eY, uF, fun s => aJ.rH hA _ _ (hf s), fun p hp => aJ.rH hA _ _ (hG p hp)⟩, h7, h8⟩
theorem aim {n s id e m clk : Nat} {f : Nat → PV} {rows : Rows} (hs : f s = .nil) (hm : 0 < m) : Gh n ⟨f, rows, clk⟩ ⟨put f (some s) (.own id clk 0 0), dC rows id (some ⟨clk, e, m, []⟩), clk + 1⟩ := by
 rintro w0 S0 G a w ⟨⟨c, rfl, sY, eY, hI, hf, hG⟩, h7, h8⟩
 obtain ⟨uF, hA⟩ := hI.set (w' := c.w) (ob := none) (id := id) (r' := ⟨clk, e, m, []⟩) (v' := .slice none 0 0) (xs := []) (World.grownBy.refl _ _) (by simp) ⟨by simp, .inl ⟨rfl, rfl⟩⟩ (by simp [a7]) (by simp) (by simp) hm (by simp [Value.ownBlock]) (fun hu => Nat.lt_irrefl _ (eY _ hu))
 refine ⟨⟨{ c with β := dC c.β id (.slice none 0 0), rows := dC c.rows id (some ⟨clk, e, m, []⟩), used := fun v => v = clk ∨ c.used v }, rfl, by simp [sY], fun v hv => by
  show v < clk + 1
  rcases hv with rfl | hv
  ·omega
  ·have : v < clk := eY v hv
   omega, uF, fun t => ?_, fun p hp => aJ.rH hA _ _ (hG p hp)⟩, h7, h8⟩
 simp only [put]
 split
 ·rename_i ht
  subst ht
  have h1 := hf t
  simp only at h1
  rw [hs] at h1
  simp only [aJ, aP, cJ] at h1
  simp only [aJ, aP]
  refine ⟨.inl (by first | rfl | trivial), fun r hr hv => ?_⟩
  simp only [fR, Option.some.injEq] at hr
  subst hr
  exact ⟨by simp, .inl ⟨trivial, none, 0, 0, by simp [dC], h1⟩⟩
 ·exact aJ.rH hA _ _ (hf t)
theorem HZ {α β : Type} {R : α → β → Prop} {x : α} {y : β} (h : R x y) : ∀ k : Nat, a7 R (List.replicate k x) (List.replicate k y)
 | 0 => trivial
 | k + 1 => ⟨h, HZ h k⟩
section
variable {E : Env} {n : Nat} {tl : Nat → Nat} {Q : PX → PS → Prop} {c : Code} {f : Nat → PV} {rows : Rows} {clk : Nat}
theorem W.row {id ver e m : Nat} {els : List (List PV)} (EC : List (List PV)) (hr : rows id = some ⟨ver, e, m, els⟩) (hw : a7 (a7 fun q p => Wk p q) EC els) (h : W E n tl c Q ⟨f, dC rows id (some ⟨ver, e, m, EC⟩), clk⟩) : W E n tl c Q ⟨f, rows, clk⟩ := W.ghost (ail hr hw) h
theorem W.nil (s id e m : Nat) (hs : f s = .nil) (hm : 0 < m) (h : ∀ K : PS → Prop, (∀ σ, W E n tl c Q σ → K σ) → K ⟨put f (some s) (.own id clk 0 0), dC rows id (some ⟨clk, e, m, []⟩), clk + 1⟩) : W E n tl c Q ⟨f, rows, clk⟩ := W.ghost (aim hs hm) (h _ fun _ h => h)
end
def fzP (o : Option Row) (ver i j : Nat) : PV :=
 match o with
 | some r => if r.ver = ver then .rd ((r.els.getD i []).drop j) else .undef
 | none => .undef
@[simp] theorem asp {rows : Rows} {id ver i j : Nat} : fz rows (.ptr id ver i j) = fzP (rows id) ver i j := rfl
@[simp] theorem asq {rows : Rows} {id ver i j : Nat} : pz rows (.ptr id ver i j) = fzP (rows id) ver i j := rfl
@[simp] theorem aqp {ver e n : Nat} {el : List PV} : fzP (some ⟨ver, e, n, [el]⟩) ver 0 0 = .rd el := by simp [fzP]
@[simp] theorem ans {id ver i j : Nat} : dA (.ptr id ver i j) = [id] := rfl
@[simp] theorem afJ {ver e n : Nat} {el : List PV} : cP (some ⟨ver, e, n, [el]⟩) = ∀ p ∈ el, bW p = true := by simp [cP]
end Pm
namespace Pm
open Go
theorem dN {E : Env} {m : Nat} {ops : List Oper} {K : PS → Prop} {f : Nat → PV} {rows : Rows} {clk : Nat} : go (fN E (m + 1) ops K ⟨f, rows, clk⟩) = go (aN E ops clk 0 (ops.take (ops.length - (m + 1))) (aL E ops (ops.drop (ops.length - (m + 1))) K) ⟨f, rows, fun _ _ => False, fun _ _ => False⟩) := by
 simp [fN]
end Pm
namespace Pm
open Go Go.RowKit
def GP (rows : Rows) (id : Nat) : PV → PV
 | .own i ver off len => if i = id then fz rows (.own i ver off len) else .own i ver off len
 | .ptr i ver a j => if i = id then fz rows (.ptr i ver a j) else .ptr i ver a j
 | p => p
def E0 (rows : Rows) (id : Nat) : PV → PV
 | .ag l => .ag (l.map (GP rows id))
 | p => GP rows id p
theorem E1 {w0 : World} {S0 : c9} {c : Cx} (hI : Inv w0 S0 c) {id : Nat} (hp : ∀ r, c.rows id = some r → ∀ e ∈ r.els, ∀ p ∈ e, bW p = true) {p : PV} {v : Value} (h : aP c p v) : aP (BA c [id]) (GP c.rows id p) v := by
 have uD : ∀ i ∈ [id], ∀ r, c.rows i = some r → ∀ e ∈ r.els, ∀ p ∈ e, bW p = true := by intro i hi; simp at hi; subst hi; exact hp
 have key : ∀ q : PV, aP c q v → (∀ i ∈ aZ q, i ∈ [id]) → (fz c.rows q = .undef ∨ bW (fz c.rows q) = true) → aP (BA c [id]) (fz c.rows q) v := by
  intro q hq hi ho
  rcases ho with ho | ho
  ·rw [ho]; simp [aP]
  ·exact aP.iW (EA hI uD hq hi ho)
 cases p with
 | own i ver off len =>
  simp only [GP]
  split
  ·rename_i hi
   subst hi
   refine key _ h (by simp [aZ]) ?_
   simp only [fz]
   cases c.rows i with
   | none => exact .inl rfl
   | some r =>
    simp only
    split
    ·exact .inr rfl
    ·exact .inl rfl
  ·exact aP.rH (kJ c [id]) _ _ h
 | ptr i ver a j =>
  simp only [GP]
  split
  ·rename_i hi
   subst hi
   refine key _ h (by simp [aZ]) ?_
   simp only [fz]
   cases c.rows i with
   | none => exact .inl rfl
   | some r =>
    simp only
    split
    ·exact .inr rfl
    ·exact .inl rfl
  ·exact aP.rH (kJ c [id]) _ _ h
 | _ => exact aP.rH (kJ c [id]) _ _ h
theorem P4 {w0 : World} {S0 : c9} {c : Cx} (hI : Inv w0 S0 c) {id : Nat} (hp : ∀ r, c.rows id = some r → ∀ e ∈ r.els, ∀ p ∈ e, bW p = true) {p : PV} {v : Value} (h : aJ c p v) : aJ (BA c [id]) (E0 c.rows id p) v := by
 cases p with
 | ag l =>
  obtain ⟨vs, h1, h2⟩ := h
  refine ⟨vs, h1, a7.cV (by simp [h2.length]) fun k a b ha hb => ?_⟩
  simp at ha
  obtain ⟨q, hq, rfl⟩ := ha
  obtain ⟨b', wZ, hr⟩ := h2.get hq
  rw [hb] at wZ; cases wZ
  exact E1 hI hp hr
 | _ =>
  simp only [aJ] at h
  have := E1 hI hp h
  simp only [E0]
  exact (by
   first
    | (simp only [GP, aJ] at this ⊢; exact this)
    | (simp only [GP] at this ⊢
       split
       · rename_i hi; rw [if_pos hi] at this; simp only [fz] at this ⊢; revert this; split <;> (try split) <;> exact fun h => h
       · rename_i hi; rw [if_neg hi] at this; exact this))
theorem CT {rows : Rows} {id : Nat} : E0 rows id .undef = .undef := rfl
theorem YI {l : List (Nat × PV)} {g : PV → PV} (hg : g .undef = .undef) : (fun s => g (fa l s)) = fa (l.map fun p => (p.1, g p.2)) := by
 funext s
 induction l with
 | nil => exact hg
 | cons p l ih =>
  obtain ⟨i, v⟩ := p
  simp only [fa, List.map_cons]
  split
  ·rfl
  ·exact ih
theorem TJ {n clk : Nat} {l : List (Nat × PV)} {rows : Rows} (id : Nat) (hp : cP (rows id)) : Gh n ⟨fa l, rows, clk⟩ ⟨fa (l.map fun p => (p.1, E0 rows id p.2)), CE rows [id], clk⟩ := by
 rintro w0 S0 G a w ⟨⟨c, rfl, sY, eY, hI, hf, hG⟩, h7, h8⟩
 have YJ : c.rows = rows := sY
 subst YJ
 refine ⟨⟨BA c [id], rfl, rfl, eY, hI.freeze [id], fun s => ?_, fun p hp => aJ.rH (kJ c [id]) _ _ (hG p hp)⟩, h7, h8⟩
 rw [← YI (g := E0 c.rows id) CT]
 exact P4 hI hp (hf s)
theorem W.freeze {E : Env} {n : Nat} {tl : Nat → Nat} {Q : PX → PS → Prop} {c : Code} {l : List (Nat × PV)} {rows : Rows} {clk : Nat} (id : Nat) (hp : cP (rows id)) (h : ∀ K : PS → Prop, (∀ σ, W E n tl c Q σ → K σ) → K ⟨fa (l.map fun p => (p.1, E0 rows id p.2)), CE rows [id], clk⟩) : W E n tl c Q ⟨fa l, rows, clk⟩ := W.ghost (TJ id hp) (h _ fun _ h => h)
@[simp] theorem aqq {rows : Rows} {id i ver off len : Nat} : E0 rows id (.own i ver off len) = if i = id then fzR (rows i) ver off len else .own i ver off len := rfl
@[simp] theorem aqr {rows : Rows} {id i ver a j : Nat} : E0 rows id (.ptr i ver a j) = if i = id then fzP (rows i) ver a j else .ptr i ver a j := rfl
@[simp] theorem aqs {α : Type} {g : α → List PV} {rows : Rows} {id : Nat} {l : List α} : E0 rows id (aI g l) = aI g l := rfl
@[simp] theorem aqt {rows : Rows} {id : Nat} {k : IntKind} {n : Int} : E0 rows id (.int k n) = .int k n := rfl
@[simp] theorem ant {rows : Rows} {id : Nat} {b : Bool} : E0 rows id (.bool b) = .bool b := rfl
@[simp] theorem aqu {rows : Rows} {id : Nat} : E0 rows id .nil = .nil := rfl
@[simp] theorem asr {rows : Rows} {id : Nat} {l : List (List PV)} : E0 rows id (.sl l) = .sl l := rfl
@[simp] theorem aqv {rows : Rows} {id : Nat} {l : List (List PV)} : E0 rows id (.iV l) = .iV l := rfl
@[simp] theorem ass {rows : Rows} {id : Nat} {l : List PV} : E0 rows id (.ag l) = .ag (l.map (GP rows id)) := rfl
@[simp] theorem aqw {rows : Rows} {id : Nat} {k : IntKind} {n : Int} : GP rows id (.int k n) = .int k n := rfl
@[simp] theorem anu {rows : Rows} {id : Nat} {b : Bool} : GP rows id (.bool b) = .bool b := rfl
@[simp] theorem aqx {rows : Rows} {id : Nat} : GP rows id .nil = .nil := rfl
@[simp] theorem aqy {α : Type} {g : α → List PV} {rows : Rows} {id : Nat} {l : List α} : GP rows id (aI g l) = aI g l := rfl
theorem acR {n s clk : Nat} {f : Nat → PV} {rows : Rows} (q : PV) (hs : f s = .nil) (hq : q = .sl []) : Gh n ⟨f, rows, clk⟩ ⟨put f (some s) q, rows, clk⟩ := by
 rintro w0 S0 G a w ⟨⟨c, rfl, sY, eY, hI, hf, hG⟩, h7, h8⟩
 refine ⟨⟨c, rfl, sY, eY, hI, fun t => ?_, hG⟩, h7, h8⟩
 simp only [put]
 split
 ·rename_i ht
  subst ht
  have h1 := hf t
  simp only at h1
  rw [hs] at h1
  subst hq
  simp only [aJ] at h1 ⊢
  exact Wk.rep (.inr ⟨rfl, rfl⟩) h1
 ·exact hf t
theorem W.TL {E : Env} {n : Nat} {tl : Nat → Nat} {Q : PX → PS → Prop} {c : Code} {f : Nat → PV} {rows : Rows} {clk : Nat} (s : Nat) (q : PV) (hs : f s = .nil) (hq : q = .sl []) (h : ∀ K : PS → Prop, (∀ σ, W E n tl c Q σ → K σ) → K ⟨put f (some s) q, rows, clk⟩) : W E n tl c Q ⟨f, rows, clk⟩ := W.ghost (acR q hs hq) (h _ fun _ h => h)
theorem acS {c : Cx} {l : List (List PV)} {v : Value} (hr : aP c (.iV l) v) : aP c (.sl l) v := by
 simp only [aP, cJ] at hr ⊢
 obtain ⟨a, h1, h2, h3⟩ := hr
 exact ⟨a, l.length, h1, Nat.le_refl _, h2, h3⟩
theorem acT {n s clk : Nat} {f : Nat → PV} {rows : Rows} (l : List (List PV)) (q : PV) (hs : f s = .iV l) (hq : q = .sl l) : Gh n ⟨f, rows, clk⟩ ⟨put f (some s) q, rows, clk⟩ := by
 rintro w0 S0 G a w ⟨⟨c, rfl, sY, eY, hI, hf, hG⟩, h7, h8⟩
 refine ⟨⟨c, rfl, sY, eY, hI, fun t => ?_, hG⟩, h7, h8⟩
 simp only [put]
 split
 ·rename_i ht
  subst ht
  have h1 := hf t
  simp only at h1
  rw [hs] at h1
  subst hq
  simp only [aJ] at h1 ⊢
  exact acS h1
 ·exact hf t
theorem W.ast {E : Env} {n : Nat} {tl : Nat → Nat} {Q : PX → PS → Prop} {c : Code} {f : Nat → PV} {rows : Rows} {clk : Nat} (s : Nat) (l : List (List PV)) (q : PV) (hs : f s = .iV l) (hq : q = .sl l) (h : ∀ K : PS → Prop, (∀ σ, W E n tl c Q σ → K σ) → K ⟨put f (some s) q, rows, clk⟩) : W E n tl c Q ⟨f, rows, clk⟩ := W.ghost (acT l q hs hq) (h _ fun _ h => h)
def zA (rows : Rows) (id : Nat) : Option Row → Option Row
 | some r => some { r with els := r.els.map fun e => e.map (GP rows id) }
 | none => none
def BS (rows : Rows) (id : Nat) : Rows := fun j => if j = id then none else zA rows id (rows j)
@[simp] theorem aqz {rows : Rows} {id j : Nat} : BS rows id j = if j = id then none else zA rows id (rows j) := rfl
@[simp] theorem afK {rows : Rows} {id v e n : Nat} {els : List (List PV)} : zA rows id (some ⟨v, e, n, els⟩) = some ⟨v, e, n, els.map fun e => e.map (GP rows id)⟩ := rfl
@[simp] theorem afL {rows : Rows} {id : Nat} : zA rows id none = none := rfl
@[simp] theorem aqA {rows : Rows} {id i ver off len : Nat} : GP rows id (.own i ver off len) = if i = id then fzR (rows i) ver off len else .own i ver off len := rfl
@[simp] theorem aqB {rows : Rows} {id i ver a j : Nat} : GP rows id (.ptr i ver a j) = if i = id then fzP (rows i) ver a j else .ptr i ver a j := rfl
theorem MT {n clk : Nat} {l : List (Nat × PV)} {rows : Rows} (id : Nat) (hp : cP (rows id)) : Gh n ⟨fa l, rows, clk⟩ ⟨fa (l.map fun p => (p.1, E0 rows id p.2)), BS rows id, clk⟩ := by
 rintro w0 S0 G a w ⟨⟨c, rfl, sY, eY, hI, hf, hG⟩, h7, h8⟩
 have YJ : c.rows = rows := sY
 subst YJ
 have G1 := hI.freeze [id]
 have live : ∀ {j : Nat} {r' : Row}, BS c.rows id j = some r' → j ≠ id ∧ ∃ r, c.rows j = some r ∧ r' = { r with els := r.els.map fun e => e.map (GP c.rows id) } := by
  intro j r' h
  simp only [BS] at h
  split at h
  ·cases h
  ·rename_i hj
   cases hr : c.rows j with
   | none => rw [hr] at h; cases h
   | some r => rw [hr] at h; simp only [zA, Option.some.injEq] at h; exact ⟨hj, r, rfl, h.symm⟩
 have hA : rG (BA c [id]) { BA c [id] with rows := BS c.rows id } := by
  refine ⟨fun _ _ h => h, fun _ _ _ => rfl, fun _ h => h, fun j r' h => ?_⟩
  obtain ⟨hj, r, hr, rfl⟩ := live h
  exact .inr ⟨r, by simp [BA, CE, hj, hr], rfl, rfl, by simp, rfl⟩
 have hI2 : Inv w0 S0 { BA c [id] with rows := BS c.rows id } := by
  refine ⟨G1.below, G1.ext, G1.new, G1.lt0, fun j r' h => ?_, fun j r' h => ?_, fun i j r s g hr hs => ?_⟩
  ·obtain ⟨hj, r, hr, rfl⟩ := live h
   exact hI.clock j r hr
  ·obtain ⟨hj, r, hr, rfl⟩ := live h
   obtain ⟨⟨xs, g1, g2, g3⟩, g4, g5, g6⟩ := hI.row j r hr
   obtain ⟨_, _, f5, _⟩ := G1.row j r (by simp [BA, CE, hj, hr])
   refine ⟨⟨xs, by rw [List.length_map]; exact g1, ?_, g3⟩, fun e he => ?_, f5, g6⟩
   ·show a7 _ (List.flatten (r.els.map fun e => e.map (GP c.rows id))) xs
    rw [← List.map_flatten]
    refine a7.cV (by rw [List.length_map]; exact g2.length) fun k p u uD hu => ?_
    rw [List.getElem?_map] at uD
    obtain ⟨q, hq, rfl⟩ := Option.map_eq_some_iff.1 uD
    obtain ⟨u', SF, jI⟩ := g2.get hq
    rw [hu] at SF; cases SF
    exact aP.rH hA _ _ (E1 hI hp jI)
   ·simp only [List.mem_map] at he
    obtain ⟨e', sL, rfl⟩ := he
    simpa using g4 e' sL
  ·obtain ⟨hi, r1, BT, rfl⟩ := live hr
   obtain ⟨hj, r2, cI, rfl⟩ := live hs
   exact hI.apart i j r1 r2 g BT cI
 refine ⟨⟨{ BA c [id] with rows := BS c.rows id }, rfl, rfl, eY, hI2, fun s => ?_, fun p hp => aJ.rH hA _ _ (aJ.rH (kJ c [id]) _ _ (hG p hp))⟩, h7, h8⟩
 show aJ _ (fa (l.map fun p => (p.1, E0 c.rows id p.2)) s) _
 rw [← YI (g := E0 c.rows id) CT]
 exact aJ.rH hA _ _ (P4 hI hp (hf s))
theorem W.E2 {E : Env} {n : Nat} {tl : Nat → Nat} {Q : PX → PS → Prop} {c : Code} {l : List (Nat × PV)} {rows : Rows} {clk : Nat} (id : Nat) (hp : cP (rows id)) (h : ∀ K : PS → Prop, (∀ σ, W E n tl c Q σ → K σ) → K ⟨fa (l.map fun p => (p.1, E0 rows id p.2)), BS rows id, clk⟩) : W E n tl c Q ⟨fa l, rows, clk⟩ := W.ghost (MT id hp) (h _ fun _ h => h)
end Pm
