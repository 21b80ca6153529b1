import Derived.Test.YtbbjgncblhfegaaGreatSac
set_option linter.unusedSimpArgs false
set_option linter.unusedVariables false
namespace Pm
open Go Go.RowKit
def emap {α : Type} (g : α → List PV) (l : List α) : List (List PV) := l.map g
def aI {α : Type} (g : α → List PV) (l : List α) : PV := .sl (emap g l)
def nth {α : Type} [Inhabited α] (l : List α) (i : Nat) : α := l[i]?.getD default
def Enc {α : Type} (g : α → List PV) (n : Nat) : Prop := ∀ x, (g x).length = n
def amU {α : Type} (g : α → List PV) : Prop := ∀ x, (g x).all bZ = true
def bJ (o : Option Row) (ver : Nat) (K : Row → Prop) : Prop := ∃ r, o = some r ∧ r.ver = ver ∧ K r
@[congr] theorem ab4 {o o' : Option Row} {ver : Nat} {K : Row → Prop} (h : o = o') : bJ o ver K = bJ o' ver K := by rw [h]
@[simp] theorem acS {r : Row} {ver : Nat} {K : Row → Prop} : bJ (some r) ver K = aH (r.ver = ver) (K r) := by simp [bJ, aH]
def CU (els : List (List PV)) (i : Nat) (K : List PV → Prop) : Prop := ∃ el, els[i]? = some el ∧ K el
@[congr] theorem akG {l l' : List (List PV)} {i i' : Nat} {K : List PV → Prop} (h : l = l') (hi : i = i') : CU l i K = CU l' i' K := by rw [h, hi]
@[simp] theorem HY {α : Type} [Inhabited α] {g : α → List PV} {l : List α} {i : Nat} {K : List PV → Prop} : CU (emap g l) i K = aH (i < l.length) (K (g (nth l i))) := by
 simp only [CU, emap, aH, nth]
 apply propext
 constructor
 ·rintro ⟨el, h1, h2⟩
  simp at h1
  obtain ⟨x, h1, rfl⟩ := h1
  have := (List.getElem?_eq_some_iff.1 h1).1
  rw [h1]
  exact ⟨this, h2⟩
 ·rintro ⟨h1, h2⟩
  rw [List.getElem?_eq_getElem h1] at h2
  exact ⟨g l[i], by simp [h1], h2⟩
@[simp] theorem amV {e : List PV} {es : List (List PV)} {K : List PV → Prop} : CU (e :: es) 0 K = go (K e) := by show _ = K e; simp [CU]
@[simp] theorem amW {e : List PV} {es : List (List PV)} {i : Nat} {K : List PV → Prop} : CU (e :: es) (i + 1) K = CU es i K := by simp [CU]
def kM {α : Type} (l : List α) (i : Nat) : Option α := l[i]?
@[simp] theorem akH {α : Type} {x : α} {l : List α} : kM (x :: l) 0 = some x := rfl
@[simp] theorem akI {α : Type} {x : α} {l : List α} {n : Nat} : kM (x :: l) (n + 1) = kM l n := rfl
def eK {α : Type} (o : Option α) (K : α → Prop) : Prop := ∃ v, o = some v ∧ K v
@[congr] theorem ahT {α : Type} {o o' : Option α} {K : α → Prop} (h : o = o') : eK o K = eK o' K := by rw [h]
@[simp] theorem akJ {α : Type} {x : α} {K : α → Prop} : eK (some x) K = go (K x) := by show _ = K x; simp [eK]
def wI (ti : TI) (l : List PV) (j : Nat) (K : PV → Prop) : Prop := if ti.agg = true then aH (j + ti.size ≤ l.length) (K (.ag ((l.drop j).take ti.size))) else eK (kM l j) K
@[congr] theorem akK {t t' : TI} {l l' : List PV} {j : Nat} {K : PV → Prop} (h1 : t = t') (h2 : l = l') : wI t l j K = wI t' l' j K := by rw [h1, h2]
@[simp] theorem aqr {k : IntKind} {l : List PV} {j : Nat} {K : PV → Prop} : wI (.int k) l j K = eK (kM l j) K := by simp [wI, TI.agg]
@[simp] theorem amX {l : List PV} {j : Nat} {K : PV → Prop} : wI .bool l j K = eK (kM l j) K := by simp [wI, TI.agg]
@[simp] theorem aqs {l : List PV} {j : Nat} {K : PV → Prop} : wI .str l j K = eK (kM l j) K := by simp [wI, TI.agg]
@[simp] theorem akL {e n b : Nat} {z : List PV} {l : List PV} {j : Nat} {K : PV → Prop} : wI (.slice e n b z) l j K = eK (kM l j) K := by simp [wI, TI.agg]
@[simp] theorem aqt {e m n : Nat} {z : List PV} {l : List PV} {j : Nat} {K : PV → Prop} : wI (.arr e m n z) l j K = aH (j + z.length ≤ l.length) (K (.ag ((l.drop j).take z.length))) := by simp [wI, TI.agg, TI.size, TI.zero]
@[simp] theorem amY {l : List PV} {j : Nat} {K : PV → Prop} : wI .yG l j K = eK (kM l j) K := by simp [wI, TI.agg]
@[simp] theorem aqu {l : List PV} {j : Nat} {K : PV → Prop} : wI .fnT l j K = eK (kM l j) K := by simp [wI, TI.agg]
@[simp] theorem ahU {fs : List (Nat × Nat × Bool)} {z : List PV} {l : List PV} {j : Nat} {K : PV → Prop} : wI (.struct fs z) l j K = aH (j + z.length ≤ l.length) (K (.ag ((l.drop j).take z.length))) := by simp [wI, TI.agg, TI.size, TI.zero]
def jW (E : Env) (t : TypeId) (rows : Rows) (p : PV) (K : PV → Prop) : Prop :=
 aH ((E.ty t).known = true) (match p with
 | .rd l => wI (E.ty t) l 0 K
 | .ptr id ver i j => bJ (rows id) ver fun r => CU r.els i fun el => wI (E.ty t) el j K
 | _ => False)
@[congr] theorem acT {E : Env} {t : TypeId} {rows : Rows} {p p' : PV} {K : PV → Prop} (h : p = p') : jW E t rows p K = jW E t rows p' K := by rw [h]
@[simp] theorem akM {E : Env} {t : TypeId} {rows : Rows} {l : List PV} {K : PV → Prop} : jW E t rows (.rd l) K = aH ((E.ty t).known = true) (wI (E.ty t) l 0 K) := rfl
@[simp] theorem ahV {E : Env} {t : TypeId} {rows : Rows} {id ver i j : Nat} {K : PV → Prop} : jW E t rows (.ptr id ver i j) K = aH ((E.ty t).known = true) (bJ (rows id) ver fun r => CU r.els i fun el => wI (E.ty t) el j K) := rfl
theorem HZ {ti : TI} {l : List PV} {j : Nat} {K : PV → Prop} : aU (fun v => if ti.agg = true then j + ti.size ≤ l.length ∧ v = .ag ((l.drop j).take ti.size) else l[j]? = some v) K = wI ti l j K := by
 simp only [wI, eK]
 split
 ·rw [iN, i7]
 ·rfl
theorem r8 {E : Env} {t : TypeId} {rows : Rows} {p : PV} {K : PV → Prop} : aU (fun v => rG E t rows p v) K = jW E t rows p K := by
 simp only [rG, jW]
 rw [iN]
 congr 1
 cases p with
 | rd l => dsimp only; rw [← HZ]; simp [go]
 | ptr id ver i j =>
  simp only [bJ, CU, ← HZ]
  apply propext; simp only [aU]
  constructor
  ·rintro ⟨v, ⟨r, h1, h2, el, h3, h4⟩, h5⟩; exact ⟨r, h1, h2, el, h3, v, h4, h5⟩
  ·rintro ⟨r, h1, h2, el, h3, v, h4, h5⟩; exact ⟨v, ⟨r, h1, h2, el, h3, h4⟩, h5⟩
 | _ => simp [aU]
def i9 (ti : TI) (i : Nat) (x : PV) (K : PV → Prop) : Prop :=
 match ti with
 | .struct fs _ => eK (kM fs i) fun p => match x with
  | .ag l => if p.2.2 = true then K (.ag ((l.drop p.1).take p.2.1)) else eK (kM l p.1) K
  | _ => False
 | _ => False
@[congr] theorem ab5 {t t' : TI} {i : Nat} {x x' : PV} {K : PV → Prop} (h : t = t') (h2 : x = x') : i9 t i x K = i9 t' i x' K := by rw [h, h2]
def EV (p : Nat × Nat × Bool) (l : List PV) (K : PV → Prop) : Prop := if p.2.2 = true then K (.ag ((l.drop p.1).take p.2.1)) else eK (kM l p.1) K
@[simp] theorem akN {o n : Nat} {l : List PV} {K : PV → Prop} : EV (o, n, true) l K = go (K (.ag ((l.drop o).take n))) := by show _ = K _; simp [EV]
@[simp] theorem ahW {o n : Nat} {l : List PV} {K : PV → Prop} : EV (o, n, false) l K = eK (kM l o) K := by simp [EV]
@[congr] theorem ahX {p p' : Nat × Nat × Bool} {l l' : List PV} {K : PV → Prop} (h : p = p') (h2 : l = l') : EV p l K = EV p' l' K := by rw [h, h2]
@[simp] theorem ahY {fs : List (Nat × Nat × Bool)} {z : List PV} {i : Nat} {l : List PV} {K : PV → Prop} : i9 (.struct fs z) i (.ag l) K = eK (kM fs i) fun p => EV p l K := rfl
theorem wJ {E : Env} {t : TypeId} {i : Nat} {x : PV} {K : PV → Prop} : aU (fun v => rV E t i x v) K = i9 (E.ty t) i x K := by
 simp only [rV, i9]
 cases E.ty t with
 | struct fs z =>
  simp only [eK]
  apply propext; simp only [aU]
  cases x with
  | ag l =>
   simp only
   constructor
   ·rintro ⟨v, ⟨o, n, b, h1, h2⟩, h3⟩
    refine ⟨_, h1, ?_⟩
    simp only
    split at h2
    ·rename_i hb; rw [if_pos hb, ← h2]; exact h3
    ·rename_i hb; rw [if_neg hb]; exact ⟨v, h2, h3⟩
   ·rintro ⟨⟨o, n, b⟩, h1, h2⟩
    simp only at h2
    split at h2
    ·rename_i hb; exact ⟨_, ⟨o, n, b, h1, by rw [if_pos hb]⟩, h2⟩
    ·rename_i hb; obtain ⟨v, h3, h4⟩ := h2; exact ⟨v, ⟨o, n, b, h1, by rw [if_neg hb]; exact h3⟩, h4⟩
  | _ => simp
 | _ => simp [aU]
def c7 (ti : TI) (rows : Rows) (i : Nat) (x : PV) (K : PV → Prop) : Prop :=
 match ti with
 | .struct fs _ => eK (kM fs i) fun p => match x with
  | .rd l => aH (p.1 ≤ l.length) (K (.rd (l.drop p.1)))
  | .ptr id ver a j => bJ (rows id) ver fun _ => K (.ptr id ver a (j + p.1))
  | _ => False
 | _ => False
@[congr] theorem P5 {t t' : TI} {rows : Rows} {i : Nat} {x x' : PV} {K : PV → Prop} (h : t = t') (h2 : x = x') : c7 t rows i x K = c7 t' rows i x' K := by rw [h, h2]
@[simp] theorem X6 {fs : List (Nat × Nat × Bool)} {z : List PV} {rows : Rows} {i : Nat} {l : List PV} {K : PV → Prop} : c7 (.struct fs z) rows i (.rd l) K = eK (kM fs i) fun p => aH (p.1 ≤ l.length) (K (.rd (l.drop p.1))) := rfl
@[simp] theorem V8 {fs : List (Nat × Nat × Bool)} {z : List PV} {rows : Rows} {i id ver a j : Nat} {K : PV → Prop} : c7 (.struct fs z) rows i (.ptr id ver a j) K = eK (kM fs i) fun p => bJ (rows id) ver fun _ => K (.ptr id ver a (j + p.1)) := rfl
theorem oO {E : Env} {t : TypeId} {rows : Rows} {i : Nat} {x : PV} {K : PV → Prop} : aU (fun v => eG E t rows i x v) K = c7 (E.ty t) rows i x K := by
 simp only [eG, c7]
 cases E.ty t with
 | struct fs z =>
  simp only [eK]
  apply propext; simp only [aU]
  cases x with
  | rd l =>
   simp only [aH]
   constructor
   ·rintro ⟨v, ⟨o, n, b, h1, h2, rfl⟩, h3⟩; exact ⟨_, h1, h2, h3⟩
   ·rintro ⟨⟨o, n, b⟩, h1, h2, h3⟩; exact ⟨_, ⟨o, n, b, h1, h2, rfl⟩, h3⟩
  | ptr id ver a j =>
   simp only [bJ]
   constructor
   ·rintro ⟨v, ⟨o, n, b, h1, ⟨r, h2, h3⟩, rfl⟩, h4⟩; exact ⟨_, h1, r, h2, h3, h4⟩
   ·rintro ⟨⟨o, n, b⟩, h1, r, h2, h3, h4⟩; exact ⟨_, ⟨o, n, b, h1, ⟨r, h2, h3⟩, rfl⟩, h4⟩
  | _ => simp
 | _ => simp [aU]
def bC (n : Nat) (l : List (List PV)) : Prop := ∀ e ∈ l, e.length = n
@[simp] theorem c8 {α : Type} {g : α → List PV} {n : Nat} {l : List α} : (Enc g n) → bC n (emap g l) = True := by
 intro h
 simp only [bC, emap, List.mem_map, eq_iff_iff, iff_true]
 rintro e ⟨x, _, rfl⟩
 exact h x
@[simp] theorem ahZ {n : Nat} : bC n [] = True := by simp [bC]
@[simp] theorem afA {n : Nat} {e : List PV} {l : List (List PV)} : bC n (e :: l) = (e.length = n ∧ bC n l) := by simp [bC]
def bV (ti : TI) (rows : Rows) (x ix : PV) (K : PV → Prop) : Prop :=
 match ti, ix with
 | .slice _ n _ _, .int _ k => aH (0 ≤ k) (match x with
  | .sl l => aH (bC n l) (CU l k.toNat fun el => K (.rd el))
  | .i3 l => aH (bC n l) (CU l k.toNat fun el => K (.rd el))
  | .own id ver off len => bJ (rows id) ver fun r => aH (r.size = n ∧ k.toNat < len) (K (.ptr id ver (off + k.toNat) 0))
  | _ => False)
 | .arr _ m n _, .int _ k => aH (0 ≤ k ∧ k.toNat < m) (match x with
  | .rd l => aH (k.toNat * n ≤ l.length) (K (.rd (l.drop (k.toNat * n))))
  | .ptr id ver a j => bJ (rows id) ver fun _ => K (.ptr id ver a (j + k.toNat * n))
  | _ => False)
 | _, _ => False
@[congr] theorem P6 {t t' : TI} {rows : Rows} {x x' y y' : PV} {K : PV → Prop} (h : t = t') (h2 : x = x') (h3 : y = y') : bV t rows x y K = bV t' rows x' y' K := by rw [h, h2, h3]
section
variable {α : Type} [Inhabited α] {g : α → List PV} {l : List α} {e n b : Nat} {z : List PV} {rows : Rows} {kk : IntKind} {k : Int} {K : PV → Prop} {els : List (List PV)} {id ver off len : Nat}
@[simp] theorem V9 : bV (.slice e n b z) rows (aI g l) (.int kk k) K = aH (0 ≤ k ∧ k.toNat < l.length) (aH (bC n (emap g l)) (K (.rd (g (nth l k.toNat))))) := by
 simp only [bV, aI, HY, aH, and_assoc]
 apply propext
 constructor
 ·rintro ⟨h1, h2, h3, h4⟩; exact ⟨h1, h3, h2, h4⟩
 ·rintro ⟨h1, h2, h3, h4⟩; exact ⟨h1, h3, h2, h4⟩
@[simp] theorem X7 : bV (.slice e n b z) rows (.sl els) (.int kk k) K = aH (0 ≤ k) (aH (bC n els) (CU els k.toNat fun el => K (.rd el))) := rfl
@[simp] theorem WA : bV (.slice e n b z) rows (.i3 els) (.int kk k) K = aH (0 ≤ k) (aH (bC n els) (CU els k.toNat fun el => K (.rd el))) := rfl
@[simp] theorem WB {m : Nat} {l : List PV} : bV (.arr e m n z) rows (.rd l) (.int kk k) K = aH (0 ≤ k ∧ k.toNat < m) (aH (k.toNat * n ≤ l.length) (K (.rd (l.drop (k.toNat * n))))) := rfl
@[simp] theorem TQ {m a j : Nat} : bV (.arr e m n z) rows (.ptr id ver a j) (.int kk k) K = aH (0 ≤ k ∧ k.toNat < m) (bJ (rows id) ver fun _ => K (.ptr id ver a (j + k.toNat * n))) := rfl
@[simp] theorem WC : bV (.slice e n b z) rows (.own id ver off len) (.int kk k) K = aH (0 ≤ k) (bJ (rows id) ver fun r => aH (r.size = n ∧ k.toNat < len) (K (.ptr id ver (off + k.toNat) 0))) := rfl
end
theorem oP {E : Env} {t : TypeId} {rows : Rows} {x ix : PV} {K : PV → Prop} : aU (fun v => eH E t rows x ix v) K = bV (E.ty t) rows x ix K := by
 simp only [eH, bV]
 cases E.ty t with
 | slice e n b z =>
  cases ix with
  | int kk k =>
   simp only
   rw [iN]
   congr 1
   cases x with
   | sl l =>
    simp only [aH, CU, bC]
    apply propext; simp only [aU]
    constructor
    ·rintro ⟨v, ⟨el, h1, h2, rfl⟩, h4⟩; exact ⟨h2, el, h1, h4⟩
    ·rintro ⟨h2, el, h1, h4⟩; exact ⟨_, ⟨el, h1, h2, rfl⟩, h4⟩
   | i3 l =>
    simp only [aH, CU, bC]
    apply propext; simp only [aU]
    constructor
    ·rintro ⟨v, ⟨el, h1, h2, rfl⟩, h4⟩; exact ⟨h2, el, h1, h4⟩
    ·rintro ⟨h2, el, h1, h4⟩; exact ⟨_, ⟨el, h1, h2, rfl⟩, h4⟩
   | own id ver off len =>
    simp only [aH, bJ]
    apply propext; simp only [aU]
    constructor
    ·rintro ⟨v, ⟨r, h1, h2, h3, h4, rfl⟩, h5⟩; exact ⟨r, h1, h2, ⟨h3, h4⟩, h5⟩
    ·rintro ⟨r, h1, h2, ⟨h3, h4⟩, h5⟩; exact ⟨_, ⟨r, h1, h2, h3, h4, rfl⟩, h5⟩
   | _ => simp [aU]
  | _ => simp [aU]
 | arr e m n z =>
  cases ix with
  | int kk k =>
   simp only
   rw [iN]
   congr 1
   cases x with
   | rd l =>
    simp only
    rw [iN, i7]
   | ptr id ver a j =>
    simp only [bJ]
    apply propext; simp only [aU]
    constructor
    ·rintro ⟨v, ⟨⟨r, h1, h2⟩, rfl⟩, h3⟩; exact ⟨r, h1, h2, h3⟩
    ·rintro ⟨r, h1, h2, h3⟩; exact ⟨_, ⟨⟨r, h1, h2⟩, rfl⟩, h3⟩
   | _ => simp [aU]
  | _ => simp [aU]
 | _ => simp [aU]
def wK (d : Nat) (o : Option PV) (K : Nat → Prop) : Prop :=
 match o with
 | none => K d
 | some (.int _ k) => aH (0 ≤ k) (K k.toNat)
 | some _ => False
@[congr] theorem akO {d d' : Nat} {o o' : Option PV} {K : Nat → Prop} (h : d = d') (h2 : o = o') : wK d o K = wK d' o' K := by rw [h, h2]
@[simp] theorem amZ {d : Nat} {K : Nat → Prop} : wK d none K = go (K d) := rfl
@[simp] theorem am0 {d : Nat} {kk : IntKind} {k : Int} {K : Nat → Prop} : wK d (some (.int kk k)) K = aH (0 ≤ k) (K k.toNat) := rfl
theorem MW {d : Nat} {o : Option PV} {K : Nat → Prop} : wK d o K ↔ ∃ n, sY d o n ∧ K n := by
 cases o with
 | none => simp [wK, sY]
 | some p =>
  cases p with
  | int kk k =>
   simp only [wK, sY, aH]
   constructor
   ·rintro ⟨h1, h2⟩; exact ⟨_, ⟨h1, rfl⟩, h2⟩
   ·rintro ⟨n, ⟨h1, rfl⟩, h2⟩; exact ⟨h1, h2⟩
  | _ => simp [wK, sY]
def TR {α : Type} (mk mkx : List α → PV) (n : Nat) (l : List α) (ok : Prop) (lo hi mx : Option PV) (K : PV → Prop) : Prop :=
 wK 0 lo fun a => wK l.length hi fun b => aH (a ≤ b ∧ b ≤ l.length) (aH ok (match mx with
  | none => K (mk ((l.take b).drop a))
  | some m => wK 0 (some m) fun c => aH (b = c ∧ hi.isSome = true) (K (mkx ((l.take b).drop a)))))
def eQ (ti : TI) (rows : Rows) (x : PV) (lo hi mx : Option PV) (K : PV → Prop) : Prop :=
 match ti with
 | .slice _ n _ _ =>
  match x with
  | .nil => wK 0 lo fun a => wK 0 hi fun b => aH (a = 0 ∧ b = 0 ∧ mx.isNone = true) (K .nil)
  | .sl l => TR .sl .i3 n l (bC n l) lo hi mx K
  | .i3 l => TR .sl .i3 n l (bC n l) lo hi mx K
  | .own id ver off len => bJ (rows id) ver fun r => aH (r.size = n) (wK 0 lo fun a => wK len hi fun b => aH (a ≤ b ∧ b ≤ len ∧ mx.isNone = true) (K (.own id ver (off + a) (b - a))))
  | _ => False
 | _ => False
@[congr] theorem ab6 {t t' : TI} {rows : Rows} {x x' : PV} {lo LB hi kZ mx mx' : Option PV} {K : PV → Prop} (h : t = t') (h2 : x = x') (h3 : lo = LB) (h4 : hi = kZ) (h5 : mx = mx') : eQ t rows x lo hi mx K = eQ t' rows x' LB kZ mx' K := by rw [h, h2, h3, h4, h5]
section
variable {α : Type} {g : α → List PV} {l : List α} {e n b : Nat} {z : List PV} {rows : Rows} {lo hi mx : Option PV} {K : PV → Prop} {els : List (List PV)} {id ver off len : Nat}
theorem H0 {a b : Nat} : ((emap g l).take b).drop a = emap g ((l.take b).drop a) := by simp [emap]
@[simp] theorem afB : eQ (.slice e n b z) rows (aI g l) lo hi none K = wK 0 lo fun a => wK l.length hi fun b => aH (a ≤ b ∧ b ≤ l.length) (aH (bC n (emap g l)) (K (aI g ((l.take b).drop a)))) := by
 simp only [eQ, aI, TR, H0]
 simp [emap]
theorem EW {m : PV} : eQ (.slice e n b z) rows (aI g l) lo hi (some m) K = wK 0 lo fun a => wK l.length hi fun b => aH (a ≤ b ∧ b ≤ l.length) (aH (bC n (emap g l)) (wK 0 (some m) fun c => aH (b = c ∧ hi.isSome = true) (K (.i3 (emap g ((l.take b).drop a)))))) := by
 simp only [eQ, aI, TR, H0]
 simp [emap]
@[simp] theorem afC : eQ (.slice e n b z) rows .nil lo hi mx K = wK 0 lo fun a => wK 0 hi fun b => aH (a = 0 ∧ b = 0 ∧ mx.isNone = true) (K .nil) := rfl
@[simp] theorem afD : eQ (.slice e n b z) rows (.own id ver off len) lo hi mx K = bJ (rows id) ver fun r => aH (r.size = n) (wK 0 lo fun a => wK len hi fun b => aH (a ≤ b ∧ b ≤ len ∧ mx.isNone = true) (K (.own id ver (off + a) (b - a)))) := rfl
end
theorem P7 {l : List (List PV)} {n : Nat} {lo hi mx : Option PV} {K : PV → Prop} : (∃ v, (∃ a b, sY 0 lo a ∧ sY l.length hi b ∧ a ≤ b ∧ b ≤ l.length ∧ (∀ e ∈ l, e.length = n) ∧ LH l a b hi mx v) ∧ K v) ↔ TR .sl .i3 n l (bC n l) lo hi mx K := by
 simp only [TR, MW, aH, bC, LH]
 constructor
 ·rintro ⟨v, ⟨a, b, h1, h2, h3, h4, h5, h6⟩, h7⟩
  refine ⟨a, h1, b, h2, ⟨h3, h4⟩, h5, ?_⟩
  cases mx with
  | none => simp only at h6 ⊢; rw [← h6]; exact h7
  | some m => obtain ⟨c, q1, q2, q3, rfl⟩ := h6; exact ⟨c, q1, ⟨q2, q3⟩, h7⟩
 ·rintro ⟨a, h1, b, h2, ⟨h3, h4⟩, h5, h6⟩
  cases mx with
  | none => exact ⟨_, ⟨a, b, h1, h2, h3, h4, h5, rfl⟩, h6⟩
  | some m => obtain ⟨c, q1, ⟨q2, q3⟩, h7⟩ := h6; exact ⟨_, ⟨a, b, h1, h2, h3, h4, h5, c, q1, q2, q3, rfl⟩, h7⟩
theorem wL {E : Env} {t : TypeId} {rows : Rows} {x : PV} {lo hi mx : Option PV} {K : PV → Prop} : aU (fun v => mQ E t rows x lo hi mx v) K = eQ (E.ty t) rows x lo hi mx K := by
 simp only [mQ, eQ]
 cases E.ty t with
 | slice e n b z =>
  cases x with
  | sl l => exact propext P7
  | i3 l => exact propext P7
  | nil =>
   simp only [MW, aH]
   apply propext; simp only [aU]
   constructor
   ·rintro ⟨v, ⟨a, b, h1, h2, h3, h4, h5, rfl⟩, h6⟩; exact ⟨a, h1, b, h2, ⟨h3, h4, h5⟩, h6⟩
   ·rintro ⟨a, h1, b, h2, ⟨h3, h4, h5⟩, h6⟩; exact ⟨_, ⟨a, b, h1, h2, h3, h4, h5, rfl⟩, h6⟩
  | own id ver off len =>
   simp only [MW, aH, bJ]
   apply propext; simp only [aU]
   constructor
   ·rintro ⟨v, ⟨r, q1, q2, q3, a, b, h1, h2, h3, h4, h5, rfl⟩, h6⟩; exact ⟨r, q1, q2, q3, a, h1, b, h2, ⟨h3, h4, h5⟩, h6⟩
   ·rintro ⟨r, q1, q2, q3, a, h1, b, h2, ⟨h3, h4, h5⟩, h6⟩; exact ⟨_, ⟨r, q1, q2, q3, a, b, h1, h2, h3, h4, h5, rfl⟩, h6⟩
  | _ => simp [aU]
 | _ => simp [aU]
def rP (rows : Rows) (x : PV) (K : PV → Prop) : Prop :=
 match x with
 | .rd l => K (.rd l)
 | .ptr id ver i j => bJ (rows id) ver fun _ => K (.ptr id ver i j)
 | _ => False
@[congr] theorem afE {rows : Rows} {x x' : PV} {K : PV → Prop} (h : x = x') : rP rows x K = rP rows x' K := by rw [h]
@[simp] theorem am1 {rows : Rows} {l : List PV} {K : PV → Prop} : rP rows (.rd l) K = go (K (.rd l)) := rfl
@[simp] theorem akP {rows : Rows} {id ver i j : Nat} {K : PV → Prop} : rP rows (.ptr id ver i j) K = bJ (rows id) ver fun _ => K (.ptr id ver i j) := rfl
theorem CV {rows : Rows} {x : PV} {K : PV → Prop} : aU (fun v => BJ rows x v) K = rP rows x K := by
 simp only [BJ, rP]
 cases x with
 | rd l => dsimp only; rw [i7]
 | ptr id ver i j =>
  simp only [bJ]
  apply propext; simp only [aU]
  constructor
  ·rintro ⟨v, ⟨⟨r, h1, h2⟩, rfl⟩, h3⟩; exact ⟨r, h1, h2, h3⟩
  ·rintro ⟨r, h1, h2, h3⟩; exact ⟨_, ⟨⟨r, h1, h2⟩, rfl⟩, h3⟩
 | _ => simp [aU]
def kP (ti : TI) (rows : Rows) (x : PV) (K : PV → Prop) : Prop :=
 match ti with
 | .slice _ _ _ _ => match x with
  | .nil => K (.int .i64 0)
  | .sl l => K (.int .i64 l.length)
  | .i3 l => K (.int .i64 l.length)
  | .own id ver _ len => bJ (rows id) ver fun _ => K (.int .i64 len)
  | _ => False
 | _ => False
@[congr] theorem afF {t t' : TI} {rows : Rows} {x x' : PV} {K : PV → Prop} (h : t = t') (h2 : x = x') : kP t rows x K = kP t' rows x' K := by rw [h, h2]
section
variable {α : Type} {g : α → List PV} {l : List α} {e n b : Nat} {z : List PV} {rows : Rows} {K : PV → Prop} {els : List (List PV)} {id ver off len : Nat}
@[simp] theorem akQ : kP (.slice e n b z) rows (aI g l) K = go (K (.int .i64 l.length)) := by show _ = K _; simp [kP, aI, emap]
@[simp] theorem akR : kP (.slice e n b z) rows .nil K = go (K (.int .i64 0)) := rfl
@[simp] theorem am2 : kP (.slice e n b z) rows (.sl els) K = go (K (.int .i64 els.length)) := rfl
@[simp] theorem akS : kP (.slice e n b z) rows (.i3 els) K = go (K (.int .i64 els.length)) := rfl
@[simp] theorem akT : kP (.slice e n b z) rows (.own id ver off len) K = bJ (rows id) ver fun _ => K (.int .i64 len) := rfl
end
theorem CW {ti : TI} {rows : Rows} {x : PV} {K : PV → Prop} : aU (fun v => vT ti rows x v) K = kP ti rows x K := by
 simp only [vT, kP]
 cases ti with
 | slice e n b z =>
  apply propext; simp only [aU, SV]
  cases x with
  | own id ver off len =>
   simp only [bJ]
   constructor
   ·rintro ⟨v, ⟨n, ⟨⟨r, h1, h2⟩, rfl⟩, rfl⟩, h4⟩; exact ⟨r, h1, h2, h4⟩
   ·rintro ⟨r, h1, h2, h4⟩; exact ⟨_, ⟨_, ⟨⟨r, h1, h2⟩, rfl⟩, rfl⟩, h4⟩
  | _ => simp
 | _ => simp [aU]
def gN (els : List (List PV)) (i j : Nat) (l : List PV) : List (List PV) := els.set i (((els[i]?).getD []).take j ++ l ++ ((els[i]?).getD []).drop (j + l.length))
def rQ (els : List (List PV)) (i n : Nat) : Prop := ∃ el, els[i]? = some el ∧ n ≤ el.length
def fX (rows : Rows) (l : List PV) : Prop := ∀ q ∈ l, gU rows q
@[simp] theorem ah0 {rows : Rows} : fX rows [] = True := by simp [fX]
@[simp] theorem afG {rows : Rows} {p : PV} {l : List PV} : fX rows (p :: l) = (gU rows p ∧ fX rows l) := by simp [fX]
@[simp] theorem ah1 {α : Type} [Inhabited α] {g : α → List PV} {l : List α} {i n : Nat} : rQ (emap g l) i n = (i < l.length ∧ n ≤ (g (nth l i)).length) := by
 exact HY (g := g) (l := l) (i := i) (K := fun el => n ≤ el.length)
def jA (E : Env) (t : TypeId) (rows : Rows) (p x : PV) (K : Nat → Row → Prop) : Prop :=
 aH ((E.ty t).known = true) (match p with
 | .ptr id ver i j => bJ (rows id) ver fun r => eK (bP x) fun l => aH (rQ r.els i (j + l.length) ∧ fX rows l ∧ l.length = (E.ty t).size) (K id ⟨ver, r.e, r.size, gN r.els i j l⟩)
 | _ => False)
@[congr] theorem ab7 {E : Env} {t : TypeId} {rows : Rows} {p p' x x' : PV} {K : Nat → Row → Prop} (h1 : p = p') (h2 : x = x') : jA E t rows p x K = jA E t rows p' x' K := by rw [h1, h2]
@[simp] theorem afH {E : Env} {t : TypeId} {rows : Rows} {id ver i j : Nat} {x : PV} {K : Nat → Row → Prop} : jA E t rows (.ptr id ver i j) x K = aH ((E.ty t).known = true) (bJ (rows id) ver fun r => eK (bP x) fun l => aH (rQ r.els i (j + l.length) ∧ fX rows l ∧ l.length = (E.ty t).size) (K id ⟨ver, r.e, r.size, gN r.els i j l⟩)) := rfl
theorem CX {E : Env} {t : TypeId} {rows : Rows} {p x : PV} {K : Nat → Row → Prop} : (∃ id r, pD E t rows p x .undef (some (id, r)) ∧ K id r) = jA E t rows p x K := by
 simp only [pD, jA, aH, bJ, eK, rQ, fX]
 apply propext
 constructor
 ·rintro ⟨id, r, ⟨h1, _, h2⟩, h3⟩
  refine ⟨h1, ?_⟩
  split at h2
  ·obtain ⟨r0, q1, q2, el, q3, l, q4, q5, q6, q7, q8⟩ := h2
   simp only [Option.some.injEq, Prod.mk.injEq] at q8
   obtain ⟨rfl, rfl⟩ := q8
   refine ⟨r0, q1, q2, l, q4, ⟨⟨el, q3, q7⟩, q5, q6⟩, ?_⟩
   simp only [gN, q3, Option.getD_some]
   rw [q2] at h3
   exact h3
  ·exact h2.elim
 ·rintro ⟨h1, h2⟩
  split at h2
  ·obtain ⟨r0, q1, q2, l, q4, ⟨⟨el, q3, q7⟩, q5, q6⟩, h3⟩ := h2
   simp only [gN, q3, Option.getD_some] at h3
   refine ⟨_, _, ⟨h1, trivial, r0, q1, q2, el, q3, l, q4, q5, q6, q7, rfl⟩, ?_⟩
   rw [← q2] at h3
   exact h3
  ·exact h2.elim
def jN (rows : Rows) (y : PV) (K : List (List PV) → Prop) : Prop :=
 match y with
 | .nil => K []
 | .sl k => K k
 | .i3 k => K k
 | .own id ver off len => bJ (rows id) ver fun r => K ((r.els.drop off).take len)
 | _ => False
@[congr] theorem afI {rows : Rows} {y y' : PV} {K : List (List PV) → Prop} (h : y = y') : jN rows y K = jN rows y' K := by rw [h]
@[simp] theorem akU {rows : Rows} {K : List (List PV) → Prop} : jN rows .nil K = go (K []) := rfl
@[simp] theorem am3 {rows : Rows} {l : List (List PV)} {K : List (List PV) → Prop} : jN rows (.sl l) K = go (K l) := rfl
@[simp] theorem akV {α : Type} {g : α → List PV} {rows : Rows} {l : List α} {K : List (List PV) → Prop} : jN rows (aI g l) K = go (K (emap g l)) := rfl
@[simp] theorem akW {rows : Rows} {l : List (List PV)} {K : List (List PV) → Prop} : jN rows (.i3 l) K = go (K l) := rfl
@[simp] theorem akX {rows : Rows} {id ver off len : Nat} {K : List (List PV) → Prop} : jN rows (.own id ver off len) K = bJ (rows id) ver fun r => K ((r.els.drop off).take len) := rfl
theorem P8 {rows : Rows} {y : PV} {K : List (List PV) → Prop} : (∃ l, s8 rows y l ∧ K l) = jN rows y K := by
 simp only [s8, jN]
 apply propext
 cases y with
 | own id ver off len =>
  simp only [bJ]
  constructor
  ·rintro ⟨l, ⟨r, h1, h2, rfl⟩, h3⟩; exact ⟨r, h1, h2, h3⟩
  ·rintro ⟨r, h1, h2, h3⟩; exact ⟨_, ⟨r, h1, h2, rfl⟩, h3⟩
 | _ => simp
def pK (t : TI) (rows : Rows) (x y : PV) (clk d : Nat) (K : PV → Rows → Nat → Prop) : Prop :=
 match t with
 | .slice e n b _ => jN rows y fun l => aH (bC n l) (match x with
  | .nil => aH (l.length ≤ room ∧ l.length * b ≤ room) (K (.own d clk 0 l.length) (dF rows d (some ⟨clk, e, n, l⟩)) (clk + 1))
  | .own id ver off len => bJ (rows id) ver fun r => aH (off = 0 ∧ len = r.els.length ∧ r.e = e ∧ r.size = n) (aH (len + l.length ≤ room ∧ (len + l.length) * b ≤ room) (K (.own id clk 0 (len + l.length)) (dF rows id (some ⟨clk, e, n, r.els ++ l⟩)) (clk + 1)))
  | .i3 l0 => aH (bC n l0 ∧ ∀ e ∈ l, ∀ p ∈ e, bZ p = true) (aH (l0.length + l.length ≤ room ∧ (l0.length + l.length) * b ≤ room) (K (.sl (l0 ++ l)) rows clk))
  | _ => False)
 | _ => False
@[congr] theorem afJ {t t' : TI} {rows : Rows} {x x' y y' : PV} {clk d : Nat} {K : PV → Rows → Nat → Prop} (h1 : t = t') (h3 : x = x') (h4 : y = y') :
  pK t rows x y clk d K = pK t' rows x' y' clk d K := by rw [h1, h3, h4]
section
variable {e n b clk d id ver off len : Nat} {z : List PV} {rows : Rows} {y : PV} {K : PV → Rows → Nat → Prop} {l0 : List (List PV)}
@[simp] theorem akY : pK (.slice e n b z) rows .nil y clk d K = jN rows y fun l => aH (bC n l) (aH (l.length ≤ room ∧ l.length * b ≤ room) (K (.own d clk 0 l.length) (dF rows d (some ⟨clk, e, n, l⟩)) (clk + 1))) := rfl
@[simp] theorem akZ : pK (.slice e n b z) rows (.own id ver off len) y clk d K = jN rows y fun l => aH (bC n l) (bJ (rows id) ver fun r => aH (off = 0 ∧ len = r.els.length ∧ r.e = e ∧ r.size = n) (aH (len + l.length ≤ room ∧ (len + l.length) * b ≤ room) (K (.own id clk 0 (len + l.length)) (dF rows id (some ⟨clk, e, n, r.els ++ l⟩)) (clk + 1)))) := rfl
@[simp] theorem ak0 : pK (.slice e n b z) rows (.i3 l0) y clk d K = jN rows y fun l => aH (bC n l) (aH (bC n l0 ∧ ∀ e ∈ l, ∀ p ∈ e, bZ p = true) (aH (l0.length + l.length ≤ room ∧ (l0.length + l.length) * b ≤ room) (K (.sl (l0 ++ l)) rows clk))) := rfl
end
theorem acU {t : TI} {rows : Rows} {x y : PV} {clk d : Nat} {K : PV → Rows → Nat → Prop} : TJ t rows x y clk d K = pK t rows x y clk d K := by
 unfold TJ pK
 cases t with
 | slice e n b z =>
  dsimp only
  rw [← P8]
  congr 1; funext l; congr 1
  simp only [aH, bC]
  congr 1
  cases x with
  | own id ver off len => simp only [bJ, and_assoc]
  | i3 l0 => simp only [bC, and_assoc]
  | _ => rfl
 | _ => rfl
def fzR (o : Option Row) (ver off len : Nat) : PV :=
 match o with
 | some r => if r.ver = ver then .sl ((r.els.drop off).take len) else .undef
 | none => .undef
@[simp] theorem asD {rows : Rows} {id ver off len : Nat} : fz rows (.own id ver off len) = fzR (rows id) ver off len := rfl
@[simp] theorem am4 {α : Type} {g : α → List PV} {l : List α} {ver e n off len : Nat} : fzR (some ⟨ver, e, n, emap g l⟩) ver off len = aI g ((l.drop off).take len) := by simp [fzR, aI, emap]
@[simp] theorem asE {rows : Rows} : fz rows .nil = .sl [] := rfl
@[simp] theorem asF {rows : Rows} {l : List (List PV)} : fz rows (.i3 l) = .sl l := rfl
@[simp] theorem avE {rows : Rows} {l : List (List PV)} : fz rows (.sl l) = .sl l := rfl
@[simp] theorem asG {α : Type} {g : α → List PV} {rows : Rows} {l : List α} : fz rows (aI g l) = aI g l := rfl
@[simp] theorem asH {rows : Rows} {k : IntKind} {n : Int} : fz rows (.int k n) = .int k n := rfl
@[simp] theorem aqv {rows : Rows} {b : Bool} : fz rows (.bool b) = .bool b := rfl
@[simp] theorem avF {rows : Rows} {f : FuncId} {l : List PV} : fz rows (.fn f l) = .fn f l := rfl
@[simp] theorem asI {rows : Rows} {id ver off len : Nat} : pz rows (.own id ver off len) = fzR (rows id) ver off len := rfl
@[simp] theorem asJ {rows : Rows} : pz rows .nil = .sl [] := rfl
@[simp] theorem asK {rows : Rows} {l : List (List PV)} : pz rows (.i3 l) = .sl l := rfl
@[simp] theorem avG {rows : Rows} {l : List (List PV)} : pz rows (.sl l) = .sl l := rfl
@[simp] theorem asL {α : Type} {g : α → List PV} {rows : Rows} {l : List α} : pz rows (aI g l) = aI g l := rfl
@[simp] theorem asM {rows : Rows} {k : IntKind} {n : Int} : pz rows (.int k n) = .int k n := rfl
@[simp] theorem aqw {rows : Rows} {b : Bool} : pz rows (.bool b) = .bool b := rfl
@[simp] theorem avH {rows : Rows} {f : FuncId} {l : List PV} : pz rows (.fn f l) = .fn f l := rfl
@[simp] theorem avI {rows : Rows} {l : List PV} : pz rows (.ag l) = .ag (l.map (fz rows)) := rfl
@[simp] theorem am5 {α : Type} {g : α → List PV} {l : List α} : eY (aI g l) = true := rfl
@[simp] theorem ak2 {α : Type} {g : α → List PV} {l : List α} : bZ (aI g l) = true := rfl
@[simp] theorem aqx {α : Type} {g : α → List PV} {l : List α} : aZ (aI g l) = [] := rfl
@[simp] theorem am6 {α : Type} {g : α → List PV} {l : List α} : dC (aI g l) = [] := rfl
@[simp] theorem aqy {l : List (List PV)} : dC (.sl l) = [] := rfl
@[simp] theorem am7 {l : List (List PV)} : dC (.i3 l) = [] := rfl
@[simp] theorem am8 {k : IntKind} {n : Int} : dC (.int k n) = [] := rfl
@[simp] theorem ak3 {b : Bool} : dC (.bool b) = [] := rfl
@[simp] theorem aqz {f : FuncId} {l : List PV} : dC (.fn f l) = [] := rfl
@[simp] theorem am9 : dC .nil = [] := rfl
@[simp] theorem ana {id ver off len : Nat} : dC (.own id ver off len) = [id] := rfl
@[simp] theorem aqA {l : List PV} : dC (.ag l) = l.flatMap aZ := rfl
@[simp] theorem anb {α : Type} {g : α → List PV} {rows : Rows} {l : List α} : gU rows (aI g l) = True := rfl
@[simp] theorem ah2 {α : Type} {g : α → List PV} {l : List α} : bP (aI g l) = some [aI g l] := rfl
@[simp] theorem ah3 {α : Type} {g : α → List PV} {l : List α} : eA (aI g l) = some [aI g l] := rfl
def cR (o : Option Row) : Prop := ∀ r, o = some r → ∀ e ∈ r.els, ∀ p ∈ e, bZ p = true
@[simp] theorem acV {rows : Rows} : dO rows [] = True := by simp [dO]
@[simp] theorem ab8 {rows : Rows} {id : Nat} {ids : List Nat} : dO rows (id :: ids) = (cR (rows id) ∧ dO rows ids) := by simp [dO, cR]
@[simp] theorem acW : cR none = True := by simp [cR]
@[simp] theorem cN {α : Type} {g : α → List PV} {l : List α} {ver e n : Nat} (h : amU g) : cR (some ⟨ver, e, n, emap g l⟩) = True := by
 simp only [cR, emap, Option.some.injEq, eq_iff_iff, iff_true]
 rintro r rfl e he p hp
 simp at he
 obtain ⟨x, _, rfl⟩ := he
 exact List.all_eq_true.1 (h x) p hp
@[simp] theorem aqB {rows : Rows} : CN rows [] = rows := by funext j; simp [CN]
@[simp] theorem asN {rows : Rows} {ids : List Nat} {j : Nat} : CN rows ids j = if j ∈ ids then none else rows j := rfl
def lC (fs : List (Nat × Nat × Bool)) : List (Nat × PV) → List PV → (List PV → Prop) → Prop
 | [], z, K => K z
 | (i, p) :: ps, z, K => eK (kM fs i) fun q => eK (eA p) fun l => aH (l.length = q.2.1 ∧ q.1 + q.2.1 ≤ z.length) (lC fs ps (z.take q.1 ++ l ++ z.drop (q.1 + q.2.1)) K)
@[congr] theorem afK {fs : List (Nat × Nat × Bool)} {ps P9 : List (Nat × PV)} {z z' : List PV} {K : List PV → Prop} (h : ps = P9) (h2 : z = z') : lC fs ps z K = lC fs P9 z' K := by rw [h, h2]
@[simp] theorem ak4 {fs : List (Nat × Nat × Bool)} {z : List PV} {K : List PV → Prop} : lC fs [] z K = go (K z) := rfl
@[simp] theorem ah4 {fs : List (Nat × Nat × Bool)} {i : Nat} {p : PV} {ps : List (Nat × PV)} {z : List PV} {K : List PV → Prop} : lC fs ((i, p) :: ps) z K = eK (kM fs i) fun q => eK (eA p) fun l => aH (l.length = q.2.1 ∧ q.1 + q.2.1 ≤ z.length) (lC fs ps (z.take q.1 ++ l ++ z.drop (q.1 + q.2.1)) K) := rfl
theorem zB {fs : List (Nat × Nat × Bool)} : ∀ {ps : List (Nat × PV)} {z : List PV} {K : List PV → Prop}, (∃ l, rH fs ps z = some l ∧ K l) ↔ lC fs ps z K
 | [], z, K => by simp [rH, lC]
 | (i, p) :: ps, z, K => by
  simp only [rH, lC, eK, aH, kM]
  cases h1 : fs[i]? with
  | none => simp
  | some q =>
   obtain ⟨o, n, b⟩ := q
   cases h2 : eA p with
   | none => simp
   | some l =>
    simp only [Option.some.injEq, exists_eq_left']
    rw [← zB]
    split
    ·rename_i h; simp [h]
    ·rename_i h; simp [h]
def j7 (ti : TI) (ps : List (Nat × PV)) (K : PV → Prop) : Prop :=
 match ti with
 | .struct fs z => lC fs ps z fun l => K (.ag l)
 | .arr _ k n z => lC (LJ k n) ps z fun l => K (.ag l)
 | _ => False
@[congr] theorem ab9 {t t' : TI} {ps P9 : List (Nat × PV)} {K : PV → Prop} (h : t = t') (h2 : ps = P9) : j7 t ps K = j7 t' P9 K := by rw [h, h2]
@[simp] theorem X8 {fs : List (Nat × Nat × Bool)} {z : List PV} {ps : List (Nat × PV)} {K : PV → Prop} : j7 (.struct fs z) ps K = lC fs ps z fun l => K (.ag l) := rfl
@[simp] theorem afL {e k n : Nat} {z : List PV} {ps : List (Nat × PV)} {K : PV → Prop} : j7 (.arr e k n z) ps K = lC (LJ k n) ps z fun l => K (.ag l) := rfl
@[simp] theorem ak5 {k n i : Nat} : kM (LJ k n) i = if i < k then some (i * n, n, false) else none := by
 unfold kM LJ
 rw [List.getElem?_map]
 split
 ·rename_i h; rw [List.getElem?_range h]; rfl
 ·rename_i h; rw [List.getElem?_eq_none (by simpa using h)]; rfl
theorem wM {ti : TI} {ps : List (Nat × PV)} {K : PV → Prop} : aU (fun v => o9 ti ps v) K = j7 ti ps K := by
 simp only [o9, j7]
 cases ti with
 | struct fs z =>
  apply propext; simp only [aU]
  rw [← zB]
  constructor
  ·rintro ⟨v, ⟨l, h1, rfl⟩, h2⟩; exact ⟨l, h1, h2⟩
  ·rintro ⟨l, h1, h2⟩; exact ⟨_, ⟨l, h1, rfl⟩, h2⟩
 | arr e k n z =>
  apply propext; simp only [aU]
  rw [← zB]
  constructor
  ·rintro ⟨v, ⟨l, h1, rfl⟩, h2⟩; exact ⟨l, h1, h2⟩
  ·rintro ⟨l, h1, h2⟩; exact ⟨_, ⟨l, h1, rfl⟩, h2⟩
 | _ => simp [aU]
def iE (n : Nat) : Nat → List (Nat × PV) → (List (List PV) → Prop) → Prop
 | _, [], K => K []
 | k, (i, p) :: ps, K => eK (bP p) fun l => aH (i = k ∧ l.length = n) (iE n (k + 1) ps fun els => K (l :: els))
@[congr] theorem acX {n k : Nat} {ps P9 : List (Nat × PV)} {K : List (List PV) → Prop} (h : ps = P9) : iE n k ps K = iE n k P9 K := by rw [h]
@[simp] theorem ah5 {n k : Nat} {K : List (List PV) → Prop} : iE n k [] K = go (K []) := rfl
@[simp] theorem afM {n k i : Nat} {p : PV} {ps : List (Nat × PV)} {K : List (List PV) → Prop} : iE n k ((i, p) :: ps) K = eK (bP p) fun l => aH (i = k ∧ l.length = n) (iE n (k + 1) ps fun els => K (l :: els)) := rfl
theorem u4 {n : Nat} : ∀ {ps : List (Nat × PV)} {k : Nat} {K : List (List PV) → Prop}, (∃ l, fV n k ps = some l ∧ K l) ↔ iE n k ps K
 | [], k, K => by simp [fV, iE]
 | (i, p) :: ps, k, K => by
  simp only [fV, iE, eK, aH]
  cases h2 : bP p with
  | none => simp
  | some l =>
   simp only [Option.some.injEq, exists_eq_left']
   rw [← u4]
   by_cases h : i = k ∧ l.length = n
   ·rw [if_pos h]
    constructor
    ·rintro ⟨e, h1, h3⟩
     obtain ⟨e', h4, rfl⟩ := Option.map_eq_some_iff.1 h1
     exact ⟨h, e', h4, h3⟩
    ·rintro ⟨_, e', h4, h3⟩
     exact ⟨_, by rw [h4]; rfl, h3⟩
   ·rw [if_neg h]; simp [h]
def zC (rows : Rows) (els : List (List PV)) : Prop := (∀ e ∈ els, ∀ p ∈ e, bZ (fz rows p) = true ∧ gU rows p) ∧ (∀ e ∈ els, ∀ p ∈ e, aZ p = [])
@[simp] theorem ak6 {rows : Rows} : zC rows [] = True := by simp [zC]
@[simp] theorem ah6 {rows : Rows} {e : List PV} {els : List (List PV)} : zC rows (e :: els) = ((∀ p ∈ e, bZ (fz rows p) = true ∧ gU rows p ∧ aZ p = []) ∧ zC rows els) := by
 simp only [zC, List.mem_cons, forall_eq_or_imp, eq_iff_iff]
 constructor
 ·rintro ⟨⟨h1, h2⟩, h3, h4⟩; exact ⟨fun p hp => ⟨(h1 p hp).1, (h1 p hp).2, h3 p hp⟩, h2, h4⟩
 ·rintro ⟨h1, h2, h4⟩; exact ⟨⟨fun p hp => ⟨(h1 p hp).1, (h1 p hp).2.1⟩, h2⟩, fun p hp => (h1 p hp).2.2, h4⟩
def tD (ti : TI) (rows : Rows) (len : Nat) (ps : List (Nat × PV)) (K : PV → Prop) : Prop :=
 match ti with
 | .slice _ n _ _ => iE n 0 ps fun els => aH (len = els.length ∧ len ≤ 4096 ∧ n ≤ 4096 ∧ zC rows els) (K (.i3 (els.map fun e => e.map (fz rows))))
 | _ => False
@[congr] theorem afN {t t' : TI} {rows : Rows} {len : Nat} {ps P9 : List (Nat × PV)} {K : PV → Prop} (h : t = t') (h2 : ps = P9) : tD t rows len ps K = tD t' rows len P9 K := by rw [h, h2]
@[simp] theorem afO {e n b : Nat} {z : List PV} {rows : Rows} {len : Nat} {ps : List (Nat × PV)} {K : PV → Prop} : tD (.slice e n b z) rows len ps K = iE n 0 ps fun els => aH (len = els.length ∧ len ≤ 4096 ∧ n ≤ 4096 ∧ zC rows els) (K (.i3 (els.map fun e => e.map (fz rows)))) := rfl
theorem CY {ti : TI} {rows : Rows} {len : Nat} {ps : List (Nat × PV)} {K : PV → Prop} : aU (fun v => LZ ti rows len ps v) K = tD ti rows len ps K := by
 simp only [LZ, tD]
 cases ti with
 | slice e n b z =>
  apply propext; simp only [aU]
  rw [← u4]
  constructor
  ·rintro ⟨v, ⟨l, h1, h2, h3, h4, h5, h6, rfl⟩, h7⟩; exact ⟨l, h1, ⟨h2, h3, h4, h5, h6⟩, h7⟩
  ·rintro ⟨l, h1, ⟨h2, h3, h4, h5, h6⟩, h7⟩; exact ⟨_, ⟨l, h1, h2, h3, h4, h5, h6, rfl⟩, h7⟩
 | _ => simp [aU]
def tE (i : Nat) (x : PV) (K : PV → Prop) : Prop :=
 match x with
 | .eP l => eK (kM l i) K
 | _ => False
@[congr] theorem afP {i : Nat} {x x' : PV} {K : PV → Prop} (h : x = x') : tE i x K = tE i x' K := by rw [h]
@[simp] theorem ak7 {i : Nat} {l : List PV} {K : PV → Prop} : tE i (.eP l) K = eK (kM l i) K := rfl
theorem CZ {i : Nat} {x : PV} {K : PV → Prop} : aU (fun v => LI i x v) K = tE i x K := by
 simp only [LI, tE]
 cases x <;> first | rfl | simp [aU]
def BU : List Oper → Nat → Option Tmp
 | [], _ => none
 | o :: _, 0 => o.dst
 | _ :: os, n + 1 => BU os n
theorem EX : ∀ (ops : List Oper) (j : Nat), BU ops j = (ops[j]?).bind (·.dst)
 | [], j => by simp [BU]
 | o :: os, 0 => by simp [BU]
 | o :: os, n + 1 => by simp [BU, EX os n]
@[simp] theorem ak8 {d : Option Tmp} {op : Op} {ty : TypeId} {pos : String} {af : Array Edge} {g : Option (Nat × Bool)} {os : List Oper} : BU (⟨d, op, ty, pos, af, g⟩ :: os) 0 = d := rfl
@[simp] theorem ak9 {o : Oper} {os : List Oper} {n : Nat} : BU (o :: os) (n + 1) = BU os n := rfl
def n3 (o : Option Tmp) (f : Nat → PV) (w : Bool) (A B : Prop) : Prop :=
 match o with
 | none => False
 | some e => stepG (f e) w A B
@[congr] theorem acY {o o' : Option Tmp} {f : Nat → PV} {w : Bool} {A B : Prop} (h : o = o') : n3 o f w A B = n3 o' f w A B := by rw [h]
@[simp] theorem afQ {e : Tmp} {f : Nat → PV} {w : Bool} {A B : Prop} : n3 (some e) f w A B = stepG (f e) w A B := rfl
@[simp] theorem ala {o : Option Tmp} {f : Nat → PV} {w : Bool} {A B : Prop} : go (n3 o f w A B) = n3 o f w A B := rfl
section
variable {E : Env} {ops os : List Oper} {K : PS → Prop} {f : Nat → PV} {rows : Rows} {clk : Nat} {d : Option Tmp} {ty : TypeId} {pos : String} {af : Array Edge} {k : Nat} {bL : Nat → Nat → Prop} {aO : Nat → Nat → Prop}
theorem H3 {op : Op} {j : Nat} {want : Bool} : aL E ops (⟨d, op, ty, pos, af, some (j, want)⟩ :: os) K ⟨f, rows, clk⟩ = n3 ((ops[j]?).bind (·.dst)) f want (aL E ops (⟨d, op, ty, pos, af, none⟩ :: os) K ⟨f, rows, clk⟩) (aL E ops os K ⟨put f d (.eP []), rows, clk⟩) := MH
theorem H4 {op : Op} {j : Nat} {want : Bool} : aN E ops clk k (⟨d, op, ty, pos, af, some (j, want)⟩ :: os) K ⟨f, rows, bL, aO⟩ = n3 ((ops[j]?).bind (·.dst)) f want (aN E ops clk k (⟨d, op, ty, pos, af, none⟩ :: os) K ⟨f, rows, bL, aO⟩) (aN E ops clk (k + 1) os K ⟨put f d (.eP []), rows, bL, aO⟩) := MP
end
section
variable {E : Env} {ops os : List Oper} {K : PS → Prop} {f : Nat → PV} {rows : Rows} {clk : Nat} {d : Option Tmp} {ty : TypeId} {pos : String} {af : Array Edge} {k : Nat} {bL : Nat → Nat → Prop} {aO : Nat → Nat → Prop}
theorem MX {t : TypeId} {x : Operand} : aL E ops (⟨d, .load t x, ty, pos, af, none⟩ :: os) K ⟨f, rows, clk⟩ = jW E t rows (aQ f x) fun v => aL E ops os K ⟨put f d v, rows, clk⟩ := by rw [TH, r8]
theorem H5 {t : TypeId} {i : Nat} {x : Operand} : aL E ops (⟨d, .field t x i, ty, pos, af, none⟩ :: os) K ⟨f, rows, clk⟩ = i9 (E.ty t) i (aQ f x) fun v => aL E ops os K ⟨put f d v, rows, clk⟩ := by rw [MI, wJ]
theorem xH {t : TypeId} {i : Nat} {x : Operand} : aL E ops (⟨d, .fieldAddr t x i, ty, pos, af, none⟩ :: os) K ⟨f, rows, clk⟩ = c7 (E.ty t) rows i (aQ f x) fun v => aL E ops os K ⟨put f d v, rows, clk⟩ := by rw [y5, oO]
theorem xI {t : TypeId} {x y : Operand} : aL E ops (⟨d, .indexAddr t x y, ty, pos, af, none⟩ :: os) K ⟨f, rows, clk⟩ = bV (E.ty t) rows (aQ f x) (aQ f y) fun v => aL E ops os K ⟨put f d v, rows, clk⟩ := by rw [y6, oP]
theorem H6 {t : TypeId} {x : Operand} {lo hi mx : Option Operand} : aL E ops (⟨d, .slice t x lo hi mx, ty, pos, af, none⟩ :: os) K ⟨f, rows, clk⟩ = eQ (E.ty t) rows (aQ f x) (lo.map (aQ f)) (hi.map (aQ f)) (mx.map (aQ f)) fun v => aL E ops os K ⟨put f d v, rows, clk⟩ := by rw [MJ, wL]
theorem TS {t : TypeId} {x : Operand} : aL E ops (⟨d, .call { callee := .builtin .len, args := ⟨[x]⟩, argTypes := ⟨[t]⟩ }, ty, pos, af, none⟩ :: os) K ⟨f, rows, clk⟩ = kP (E.ty t) rows (aQ f x) fun v => aL E ops os K ⟨put f d v, rows, clk⟩ := by rw [XV, CW]
theorem H7 {t : TypeId} {p x : Operand} : aL E ops (⟨none, .store t p x, ty, pos, af, none⟩ :: os) K ⟨f, rows, clk⟩ = jA E t rows (aQ f p) (aQ f x) fun id r => aL E ops os K ⟨f, dF rows id (some r), clk⟩ := by rw [MN, CX]
theorem EY {t t2 : TypeId} {x y : Operand} : aL E ops (⟨d, .call { callee := .builtin .append, args := ⟨[x, y]⟩, argTypes := ⟨[t, t2]⟩ }, ty, pos, af, none⟩ :: os) K ⟨f, rows, clk⟩ =
  aH (t2 = t ∨ WU (E.ty t2) = true) (pK (E.ty t) rows (aQ f x) (aQ f y) clk (d.getD 0) fun v rows clk => aL E ops os K ⟨put f d v, rows, clk⟩) := by rw [HU, acU]
theorem MY {t : TypeId} {x : Operand} : aN E ops clk k (⟨d, .load t x, ty, pos, af, none⟩ :: os) K ⟨f, rows, bL, aO⟩ = jW E t (dP .any ops k aO rows) (aQ f x) fun v => aN E ops clk (k + 1) os K ⟨put f d v, rows, kD k (aZ (aQ f x)) bL, aO⟩ := by rw [TP, r8]
theorem H8 {t : TypeId} {i : Nat} {x : Operand} : aN E ops clk k (⟨d, .field t x i, ty, pos, af, none⟩ :: os) K ⟨f, rows, bL, aO⟩ = i9 (E.ty t) i (aQ f x) fun v => aN E ops clk (k + 1) os K ⟨put f d v, rows, bL, aO⟩ := by rw [MQ, wJ]
theorem xJ {t : TypeId} {i : Nat} {x : Operand} : aN E ops clk k (⟨d, .fieldAddr t x i, ty, pos, af, none⟩ :: os) K ⟨f, rows, bL, aO⟩ = c7 (E.ty t) (dP .any ops k aO rows) i (aQ f x) fun v => aN E ops clk (k + 1) os K ⟨put f d v, rows, kD k (aZ (aQ f x)) bL, aO⟩ := by rw [y8, oO]
theorem xK {t : TypeId} {x y : Operand} : aN E ops clk k (⟨d, .indexAddr t x y, ty, pos, af, none⟩ :: os) K ⟨f, rows, bL, aO⟩ = bV (E.ty t) (dP .any ops k aO rows) (aQ f x) (aQ f y) fun v => aN E ops clk (k + 1) os K ⟨put f d v, rows, kD k (aZ (aQ f x)) bL, aO⟩ := by rw [y9, oP]
theorem H9 {t : TypeId} {x : Operand} {lo hi mx : Option Operand} : aN E ops clk k (⟨d, .slice t x lo hi mx, ty, pos, af, none⟩ :: os) K ⟨f, rows, bL, aO⟩ = eQ (E.ty t) (dP .any ops k aO rows) (aQ f x) (lo.map (aQ f)) (hi.map (aQ f)) (mx.map (aQ f)) fun v => aN E ops clk (k + 1) os K ⟨put f d v, rows, kD k (aZ (aQ f x)) bL, aO⟩ := by rw [MR, wL]
theorem TT {t : TypeId} {x : Operand} : aN E ops clk k (⟨d, .call { callee := .builtin .len, args := ⟨[x]⟩, argTypes := ⟨[t]⟩ }, ty, pos, af, none⟩ :: os) K ⟨f, rows, bL, aO⟩ = kP (E.ty t) (dP .any ops k aO rows) (aQ f x) fun v => aN E ops clk (k + 1) os K ⟨put f d v, rows, kD k (aZ (aQ f x)) bL, aO⟩ := by rw [X0, CW]
theorem IA {t : TypeId} {p x : Operand} : aN E ops clk k (⟨none, .store t p x, ty, pos, af, none⟩ :: os) K ⟨f, rows, bL, aO⟩ =
  jA E t (dP .any ops k aO rows) (aQ f p) (aQ f x) fun id r => aH (yV .any ops k id bL) (aN E ops clk (k + 1) os K ⟨f, dF rows id (some r), kD k (aZ (aQ f p) ++ ((bP (aQ f x)).getD []).flatMap aZ) bL, nY k id aO⟩) := by rw [MT, ← CX]; rfl
theorem QB {x : Operand} : go (aL E ops (⟨d, .move x, ty, pos, af, none⟩ :: os) K ⟨f, rows, clk⟩) = go (aL E ops os K ⟨put f d (aQ f x), rows, clk⟩) := TE
theorem C0 {x : Operand} : go (aL E ops (⟨d, .assign x, ty, pos, af, none⟩ :: os) K ⟨f, rows, clk⟩) = go (aL E ops os K ⟨put f d (aQ f x), rows, clk⟩) := HT
theorem acZ {c a b : Operand} : go (aL E ops (⟨d, .pick c a b, ty, pos, af, none⟩ :: os) K ⟨f, rows, clk⟩) = gM (aQ f c) true (aL E ops os K ⟨put f d (aQ f a), rows, clk⟩) (aL E ops os K ⟨put f d (aQ f b), rows, clk⟩) := TF
theorem X9 {op : BinOp} {t t2 : TypeId} {x y : Operand} : go (aL E ops (⟨d, .binOp op t x y t2, ty, pos, af, none⟩ :: os) K ⟨f, rows, clk⟩) = aU (fun v => EA E op t (aQ f x) (aQ f y) v) fun v => aL E ops os K ⟨put f d v, rows, clk⟩ := XU
theorem anc {op : UnOp} {t : TypeId} {x : Operand} : go (aL E ops (⟨d, .unOp op t x, ty, pos, af, none⟩ :: os) K ⟨f, rows, clk⟩) = aU (fun v => yun op (aQ f x) v) fun v => aL E ops os K ⟨put f d v, rows, clk⟩ := acO
theorem EZ {s t : TypeId} {x : Operand} : go (aL E ops (⟨d, .convert s t x, ty, pos, af, none⟩ :: os) K ⟨f, rows, clk⟩) = aU (fun v => rI (E.ty s) (E.ty t) (aQ f x) v) fun v => aL E ops os K ⟨put f d v, rows, clk⟩ := TG
theorem MZ {i : Nat} {x : Operand} : go (aL E ops (⟨d, .extract x i, ty, pos, af, none⟩ :: os) K ⟨f, rows, clk⟩) = tE i (aQ f x) fun v => aL E ops os K ⟨put f d v, rows, clk⟩ := by
 show aL E ops (⟨d, .extract x i, ty, pos, af, none⟩ :: os) K ⟨f, rows, clk⟩ = _
 rw [ET, CZ]
theorem ac0 {t : TypeId} {x : Operand} : go (aL E ops (⟨d, .load t x, ty, pos, af, none⟩ :: os) K ⟨f, rows, clk⟩) = jW E t rows (aQ f x) fun v => aL E ops os K ⟨put f d v, rows, clk⟩ := MX
theorem YA {t : TypeId} {i : Nat} {x : Operand} : go (aL E ops (⟨d, .field t x i, ty, pos, af, none⟩ :: os) K ⟨f, rows, clk⟩) = i9 (E.ty t) i (aQ f x) fun v => aL E ops os K ⟨put f d v, rows, clk⟩ := H5
theorem E0 {t : TypeId} {i : Nat} {x : Operand} : go (aL E ops (⟨d, .fieldAddr t x i, ty, pos, af, none⟩ :: os) K ⟨f, rows, clk⟩) = c7 (E.ty t) rows i (aQ f x) fun v => aL E ops os K ⟨put f d v, rows, clk⟩ := xH
theorem E1 {t : TypeId} {x y : Operand} : go (aL E ops (⟨d, .indexAddr t x y, ty, pos, af, none⟩ :: os) K ⟨f, rows, clk⟩) = bV (E.ty t) rows (aQ f x) (aQ f y) fun v => aL E ops os K ⟨put f d v, rows, clk⟩ := xI
theorem YB {t : TypeId} {x : Operand} {lo hi mx : Option Operand} : go (aL E ops (⟨d, .slice t x lo hi mx, ty, pos, af, none⟩ :: os) K ⟨f, rows, clk⟩) = eQ (E.ty t) rows (aQ f x) (lo.map (aQ f)) (hi.map (aQ f)) (mx.map (aQ f)) fun v => aL E ops os K ⟨put f d v, rows, clk⟩ := H6
theorem YC {t : TypeId} {parts : Array (Nat × Operand)} : go (aL E ops (⟨d, .build t parts, ty, pos, af, none⟩ :: os) K ⟨f, rows, clk⟩) = j7 (E.ty t) (parts.toList.map fun x => (x.1, aQ f x.2)) fun v => aL E ops os K ⟨put f d v, rows, clk⟩ := by
 show aL E ops (⟨d, .build t parts, ty, pos, af, none⟩ :: os) K ⟨f, rows, clk⟩ = _
 rw [ML, wM]
theorem IB {t : TypeId} {x y : Operand} : go (aL E ops (⟨d, .index t x y, ty, pos, af, none⟩ :: os) K ⟨f, rows, clk⟩) = aU (fun v => rW (E.ty t) (aQ f x) (aQ f y) v) fun v => aL E ops os K ⟨put f d v, rows, clk⟩ := MM
theorem IC {x : Operand} : go (aL E ops (⟨d, .nilCheck x, ty, pos, af, none⟩ :: os) K ⟨f, rows, clk⟩) = rP rows (aQ f x) fun v => aL E ops os K ⟨put f d v, rows, clk⟩ := by show aL E ops _ K _ = _; rw [BQ, CV]
theorem ah7 {t : TypeId} {x : Operand} : go (aL E ops (⟨d, .call { callee := .builtin .len, args := ⟨[x]⟩, argTypes := ⟨[t]⟩ }, ty, pos, af, none⟩ :: os) K ⟨f, rows, clk⟩) = kP (E.ty t) rows (aQ f x) fun v => aL E ops os K ⟨put f d v, rows, clk⟩ := TS
theorem ah8 {ts : Array TypeId} {x y : Operand} : go (aL E ops (⟨d, .call { callee := .builtin .max, args := ⟨[x, y]⟩, argTypes := ts }, ty, pos, af, none⟩ :: os) K ⟨f, rows, clk⟩) = aU (fun v => LK (aQ f x) (aQ f y) v) fun v => aL E ops os K ⟨put f d v, rows, clk⟩ := XW
theorem ah9 {ts : Array TypeId} {x y : Operand} : go (aL E ops (⟨d, .call { callee := .builtin .min, args := ⟨[x, y]⟩, argTypes := ts }, ty, pos, af, none⟩ :: os) K ⟨f, rows, clk⟩) = aU (fun v => LM (aQ f x) (aQ f y) v) fun v => aL E ops os K ⟨put f d v, rows, clk⟩ := XX
theorem BV {t : TypeId} {len : Nat} {parts : Array (Nat × Operand)} : go (aL E ops (⟨d, .buildSlice t len parts, ty, pos, af, none⟩ :: os) K ⟨f, rows, clk⟩) = tD (E.ty t) rows len (parts.toList.map fun x => (x.1, aQ f x.2)) fun v => aL E ops os K ⟨put f d v, rows, clk⟩ := by
 show aL E ops (⟨d, .buildSlice t len parts, ty, pos, af, none⟩ :: os) K ⟨f, rows, clk⟩ = _
 rw [xF, CY]
theorem YD {t : TypeId} {p x : Operand} : go (aL E ops (⟨none, .store t p x, ty, pos, af, none⟩ :: os) K ⟨f, rows, clk⟩) = jA E t rows (aQ f p) (aQ f x) fun id r => aL E ops os K ⟨f, dF rows id (some r), clk⟩ := H7
theorem YE {t : TypeId} : go (aL E ops (⟨d, .alloc t, ty, pos, af, none⟩ :: os) K ⟨f, rows, clk⟩) = aH ((E.ty t).known = true) (aL E ops os K ⟨put f d (.ptr (d.getD 0) clk 0 0), dF rows (d.getD 0) (some ⟨clk, t, (E.ty t).size, [(E.ty t).zero]⟩), clk + 1⟩) := MO
theorem aia {t : TypeId} {x : Operand} : go (aL E ops (⟨d, .box t x, ty, pos, af, none⟩ :: os) K ⟨f, rows, clk⟩) = aH ((E.ty t).known = true) (eK (bP (aQ f x)) fun l => aH (fX rows l ∧ l.length = (E.ty t).size) (aL E ops os K ⟨put f d (.ptr (d.getD 0) clk 0 0), dF rows (d.getD 0) (some ⟨clk, t, (E.ty t).size, [l]⟩), clk + 1⟩)) := by
 show aL E ops (⟨d, .box t x, ty, pos, af, none⟩ :: os) K ⟨f, rows, clk⟩ = _
 rw [XY]
 simp only [aH, eK, fX, and_assoc]
theorem E2 {t : TypeId} {l c : Operand} : go (aL E ops (⟨d, .makeSlice t l c, ty, pos, af, none⟩ :: os) K ⟨f, rows, clk⟩) = pI (E.ty t) (aQ f l) (aQ f c) fun e n z x => aL E ops os K ⟨put f d (.own (d.getD 0) clk 0 x.toNat), dF rows (d.getD 0) (some ⟨clk, e, n, List.replicate x.toNat z⟩), clk + 1⟩ := y7
theorem TU {t t2 : TypeId} {x y : Operand} : go (aL E ops (⟨d, .call { callee := .builtin .append, args := ⟨[x, y]⟩, argTypes := ⟨[t, t2]⟩ }, ty, pos, af, none⟩ :: os) K ⟨f, rows, clk⟩) = aH (t2 = t ∨ WU (E.ty t2) = true) (pK (E.ty t) rows (aQ f x) (aQ f y) clk (d.getD 0) fun v rows clk => aL E ops os K ⟨put f d v, rows, clk⟩) := EY
theorem ac1 {fo : Operand} {args : Array Operand} {ts : Array TypeId} : go (aL E ops (⟨d, .call { callee := .value fo, args := args, argTypes := ts }, ty, pos, af, none⟩ :: os) K ⟨f, rows, clk⟩) = pJ E (aQ f fo) (args.toList.map (aQ f)) rows clk fun v rows clk => aL E ops os K ⟨put f d v, rows, clk⟩ := TL
theorem ID {g : FuncId} {bT : Array Operand} : go (aL E ops (⟨d, .makeFunc (.func g) ⟨[]⟩ bT, ty, pos, af, none⟩ :: os) K ⟨f, rows, clk⟩) = aH (((bT.toList.map (aQ f)).map (pz rows)).all eY = true ∧ dO rows ((bT.toList.map (aQ f)).flatMap dC))
      (aL E ops os K ⟨put f d (.fn g ((bT.toList.map (aQ f)).map (pz rows))), CN rows ((bT.toList.map (aQ f)).flatMap dC), clk⟩) := BR
theorem YF {op : Op} {j : Nat} {want : Bool} : go (aL E ops (⟨d, op, ty, pos, af, some (j, want)⟩ :: os) K ⟨f, rows, clk⟩) = n3 (BU ops j) f want (aL E ops (⟨d, op, ty, pos, af, none⟩ :: os) K ⟨f, rows, clk⟩) (aL E ops os K ⟨put f d (.eP []), rows, clk⟩) := by
 rw [EX, ← H3]; rfl
theorem ac2 {x : Operand} : go (aN E ops clk k (⟨d, .move x, ty, pos, af, none⟩ :: os) K ⟨f, rows, bL, aO⟩) = go (aN E ops clk (k + 1) os K ⟨put f d (aQ f x), rows, bL, aO⟩) := TM
theorem TV {x : Operand} : go (aN E ops clk k (⟨d, .assign x, ty, pos, af, none⟩ :: os) K ⟨f, rows, bL, aO⟩) = go (aN E ops clk (k + 1) os K ⟨put f d (aQ f x), rows, bL, aO⟩) := HW
theorem ac3 {c a b : Operand} : go (aN E ops clk k (⟨d, .pick c a b, ty, pos, af, none⟩ :: os) K ⟨f, rows, bL, aO⟩) = gM (aQ f c) true (aN E ops clk (k + 1) os K ⟨put f d (aQ f a), rows, bL, aO⟩) (aN E ops clk (k + 1) os K ⟨put f d (aQ f b), rows, bL, aO⟩) := TN
theorem aib {op : BinOp} {t t2 : TypeId} {x y : Operand} : go (aN E ops clk k (⟨d, .binOp op t x y t2, ty, pos, af, none⟩ :: os) K ⟨f, rows, bL, aO⟩) = aU (fun v => EA E op t (aQ f x) (aQ f y) v) fun v => aN E ops clk (k + 1) os K ⟨put f d v, rows, bL, aO⟩ := XZ
theorem ane {op : UnOp} {t : TypeId} {x : Operand} : go (aN E ops clk k (⟨d, .unOp op t x, ty, pos, af, none⟩ :: os) K ⟨f, rows, bL, aO⟩) = aU (fun v => yun op (aQ f x) v) fun v => aN E ops clk (k + 1) os K ⟨put f d v, rows, bL, aO⟩ := acQ
theorem ac4 {s t : TypeId} {x : Operand} : go (aN E ops clk k (⟨d, .convert s t x, ty, pos, af, none⟩ :: os) K ⟨f, rows, bL, aO⟩) = aU (fun v => rI (E.ty s) (E.ty t) (aQ f x) v) fun v => aN E ops clk (k + 1) os K ⟨put f d v, rows, bL, aO⟩ := TO
theorem M0 {i : Nat} {x : Operand} : go (aN E ops clk k (⟨d, .extract x i, ty, pos, af, none⟩ :: os) K ⟨f, rows, bL, aO⟩) = tE i (aQ f x) fun v => aN E ops clk (k + 1) os K ⟨put f d v, rows, bL, aO⟩ := by
 show aN E ops clk k (⟨d, .extract x i, ty, pos, af, none⟩ :: os) K ⟨f, rows, bL, aO⟩ = _
 rw [EU, CZ]
theorem ac5 {t : TypeId} {x : Operand} : go (aN E ops clk k (⟨d, .load t x, ty, pos, af, none⟩ :: os) K ⟨f, rows, bL, aO⟩) = jW E t (dP .any ops k aO rows) (aQ f x) fun v => aN E ops clk (k + 1) os K ⟨put f d v, rows, kD k (aZ (aQ f x)) bL, aO⟩ := MY
theorem YH {t : TypeId} {i : Nat} {x : Operand} : go (aN E ops clk k (⟨d, .field t x i, ty, pos, af, none⟩ :: os) K ⟨f, rows, bL, aO⟩) = i9 (E.ty t) i (aQ f x) fun v => aN E ops clk (k + 1) os K ⟨put f d v, rows, bL, aO⟩ := H8
theorem E3 {t : TypeId} {i : Nat} {x : Operand} : go (aN E ops clk k (⟨d, .fieldAddr t x i, ty, pos, af, none⟩ :: os) K ⟨f, rows, bL, aO⟩) = c7 (E.ty t) (dP .any ops k aO rows) i (aQ f x) fun v => aN E ops clk (k + 1) os K ⟨put f d v, rows, kD k (aZ (aQ f x)) bL, aO⟩ := xJ
theorem E4 {t : TypeId} {x y : Operand} : go (aN E ops clk k (⟨d, .indexAddr t x y, ty, pos, af, none⟩ :: os) K ⟨f, rows, bL, aO⟩) = bV (E.ty t) (dP .any ops k aO rows) (aQ f x) (aQ f y) fun v => aN E ops clk (k + 1) os K ⟨put f d v, rows, kD k (aZ (aQ f x)) bL, aO⟩ := xK
theorem YI {t : TypeId} {x : Operand} {lo hi mx : Option Operand} : go (aN E ops clk k (⟨d, .slice t x lo hi mx, ty, pos, af, none⟩ :: os) K ⟨f, rows, bL, aO⟩) = eQ (E.ty t) (dP .any ops k aO rows) (aQ f x) (lo.map (aQ f)) (hi.map (aQ f)) (mx.map (aQ f)) fun v => aN E ops clk (k + 1) os K ⟨put f d v, rows, kD k (aZ (aQ f x)) bL, aO⟩ := H9
theorem YJ {t : TypeId} {parts : Array (Nat × Operand)} : go (aN E ops clk k (⟨d, .build t parts, ty, pos, af, none⟩ :: os) K ⟨f, rows, bL, aO⟩) = j7 (E.ty t) (parts.toList.map fun x => (x.1, aQ f x.2)) fun v => aN E ops clk (k + 1) os K ⟨put f d v, rows, bL, aO⟩ := by
 show aN E ops clk k (⟨d, .build t parts, ty, pos, af, none⟩ :: os) K ⟨f, rows, bL, aO⟩ = _
 rw [MS, wM]
theorem IE {x : Operand} : go (aN E ops clk k (⟨d, .nilCheck x, ty, pos, af, none⟩ :: os) K ⟨f, rows, bL, aO⟩) = rP (dP .any ops k aO rows) (aQ f x) fun v => aN E ops clk (k + 1) os K ⟨put f d v, rows, kD k (aZ (aQ f x)) bL, aO⟩ := by show aN E ops clk k _ K _ = _; rw [BS, CV]
theorem aic {t : TypeId} {x : Operand} : go (aN E ops clk k (⟨d, .call { callee := .builtin .len, args := ⟨[x]⟩, argTypes := ⟨[t]⟩ }, ty, pos, af, none⟩ :: os) K ⟨f, rows, bL, aO⟩) = kP (E.ty t) (dP .any ops k aO rows) (aQ f x) fun v => aN E ops clk (k + 1) os K ⟨put f d v, rows, kD k (aZ (aQ f x)) bL, aO⟩ := TT
theorem aid {ts : Array TypeId} {x y : Operand} : go (aN E ops clk k (⟨d, .call { callee := .builtin .max, args := ⟨[x, y]⟩, argTypes := ts }, ty, pos, af, none⟩ :: os) K ⟨f, rows, bL, aO⟩) = aU (fun v => LK (aQ f x) (aQ f y) v) fun v => aN E ops clk (k + 1) os K ⟨put f d v, rows, bL, aO⟩ := X1
theorem aie {ts : Array TypeId} {x y : Operand} : go (aN E ops clk k (⟨d, .call { callee := .builtin .min, args := ⟨[x, y]⟩, argTypes := ts }, ty, pos, af, none⟩ :: os) K ⟨f, rows, bL, aO⟩) = aU (fun v => LM (aQ f x) (aQ f y) v) fun v => aN E ops clk (k + 1) os K ⟨put f d v, rows, bL, aO⟩ := X3
theorem BW {t : TypeId} {len : Nat} {parts : Array (Nat × Operand)} : go (aN E ops clk k (⟨d, .buildSlice t len parts, ty, pos, af, none⟩ :: os) K ⟨f, rows, bL, aO⟩) = tD (E.ty t) (dP .any ops k aO rows) len (parts.toList.map fun x => (x.1, aQ f x.2)) fun v => aN E ops clk (k + 1) os K ⟨put f d v, rows, bL, aO⟩ := by
 show aN E ops clk k (⟨d, .buildSlice t len parts, ty, pos, af, none⟩ :: os) K ⟨f, rows, bL, aO⟩ = _
 rw [xG, CY]
theorem YK {t : TypeId} {p x : Operand} : go (aN E ops clk k (⟨none, .store t p x, ty, pos, af, none⟩ :: os) K ⟨f, rows, bL, aO⟩) = jA E t (dP .any ops k aO rows) (aQ f p) (aQ f x) fun id r => aH (yV .any ops k id bL) (aN E ops clk (k + 1) os K ⟨f, dF rows id (some r), kD k (aZ (aQ f p) ++ ((bP (aQ f x)).getD []).flatMap aZ) bL, nY k id aO⟩) := IA
theorem YL {t : TypeId} : go (aN E ops clk k (⟨d, .alloc t, ty, pos, af, none⟩ :: os) K ⟨f, rows, bL, aO⟩) = aH ((E.ty t).known = true ∧ yV .any ops k (d.getD 0) bL) (aN E ops (clk + 1) (k + 1) os K ⟨put f d (.ptr (d.getD 0) clk 0 0), dF rows (d.getD 0) (some ⟨clk, t, (E.ty t).size, [(E.ty t).zero]⟩), bL, nY k (d.getD 0) aO⟩) := MU
theorem aif {t : TypeId} {x : Operand} : go (aN E ops clk k (⟨d, .box t x, ty, pos, af, none⟩ :: os) K ⟨f, rows, bL, aO⟩) = aH ((E.ty t).known = true) (eK (bP (aQ f x)) fun l => aH (fX (fun _ => none) l ∧ l.length = (E.ty t).size ∧ yV .any ops k (d.getD 0) bL) (aN E ops (clk + 1) (k + 1) os K ⟨put f d (.ptr (d.getD 0) clk 0 0), dF rows (d.getD 0) (some ⟨clk, t, (E.ty t).size, [l]⟩), bL, nY k (d.getD 0) aO⟩)) := by
 show aN E ops clk k (⟨d, .box t x, ty, pos, af, none⟩ :: os) K ⟨f, rows, bL, aO⟩ = _
 rw [X5]
 simp only [aH, eK, fX]
theorem E5 {t : TypeId} {l c : Operand} : go (aN E ops clk k (⟨d, .makeSlice t l c, ty, pos, af, none⟩ :: os) K ⟨f, rows, bL, aO⟩) = pI (E.ty t) (aQ f l) (aQ f c) fun e n z x => aH (yV .any ops k (d.getD 0) bL) (aN E ops (clk + 1) (k + 1) os K ⟨put f d (.own (d.getD 0) clk 0 x.toNat), dF rows (d.getD 0) (some ⟨clk, e, n, List.replicate x.toNat z⟩), bL, nY k (d.getD 0) aO⟩) := zA
def rR (t : TI) (rows : Rows) (x y : PV) (clk d : Nat) (K : PV → Nat → Row → Prop) : Prop :=
 match t with
 | .slice e n b _ => jN rows y fun l => aH (bC n l) (match x with
  | .nil => aH (l.length ≤ room ∧ l.length * b ≤ room) (K (.own d clk 0 l.length) d ⟨clk, e, n, l⟩)
  | .own id ver off len => bJ (rows id) ver fun r => aH (off = 0 ∧ len = r.els.length ∧ r.e = e ∧ r.size = n) (aH (len + l.length ≤ room ∧ (len + l.length) * b ≤ room) (K (.own id clk 0 (len + l.length)) id ⟨clk, e, n, r.els ++ l⟩))
  | _ => False)
 | _ => False
@[congr] theorem afR {t t' : TI} {rows rows' : Rows} {x x' y y' : PV} {clk d : Nat} {K : PV → Nat → Row → Prop} (h1 : t = t') (h2 : rows = rows') (h3 : x = x') (h4 : y = y') :
  rR t rows x y clk d K = rR t' rows' x' y' clk d K := by rw [h1, h2, h3, h4]
@[simp] theorem alb {e : TypeId} {n b : Nat} {z : List PV} {rows : Rows} {y : PV} {clk d : Nat} {K : PV → Nat → Row → Prop} : rR (.slice e n b z) rows .nil y clk d K = jN rows y fun l => aH (bC n l) (aH (l.length ≤ room ∧ l.length * b ≤ room) (K (.own d clk 0 l.length) d ⟨clk, e, n, l⟩)) := rfl
@[simp] theorem alc {e : TypeId} {n b : Nat} {z : List PV} {rows : Rows} {y : PV} {clk d id ver off len : Nat} {K : PV → Nat → Row → Prop} : rR (.slice e n b z) rows (.own id ver off len) y clk d K = jN rows y fun l => aH (bC n l) (bJ (rows id) ver fun r => aH (off = 0 ∧ len = r.els.length ∧ r.e = e ∧ r.size = n) (aH (len + l.length ≤ room ∧ (len + l.length) * b ≤ room) (K (.own id clk 0 (len + l.length)) id ⟨clk, e, n, r.els ++ l⟩))) := rfl
@[simp] theorem anf (t : TI) (r : Rows) (x y : PV) (c d : Nat) (K : PV → Nat → Row → Prop) : go (rR t r x y c d K) = rR t r x y c d K := rfl
theorem YM {t : TI} {rows : Rows} {x y : PV} {clk d : Nat} {K : PV → Nat → Row → Prop} : (∃ v id r, pG t rows x y clk d v (some (id, r)) ∧ K v id r) = rR t rows x y clk d K := by
 cases t with
 | slice e n b z =>
  simp only [rR, pG]
  rw [← P8]
  apply propext
  cases x with
  | nil =>
   simp only [aH, bC]
   constructor
   ·rintro ⟨v, id, r, ⟨l, h1, h2, h3, h4, rfl, h5⟩, h6⟩
    cases h5
    exact ⟨l, h1, h2, ⟨h3, h4⟩, h6⟩
   ·rintro ⟨l, h1, h2, ⟨h3, h4⟩, h6⟩
    exact ⟨_, _, _, ⟨l, h1, h2, h3, h4, rfl, rfl⟩, h6⟩
  | own id ver off len =>
   simp only [aH, bC, bJ]
   constructor
   ·rintro ⟨v, iY, r', ⟨l, h1, h2, r, h3, h4, h5, h6, h7, h8, h9, h10, rfl, h11⟩, h12⟩
    cases h11
    exact ⟨l, h1, h2, r, h3, h4, ⟨h5, h6, h7, h8⟩, ⟨h9, h10⟩, h12⟩
   ·rintro ⟨l, h1, h2, r, h3, h4, ⟨h5, h6, h7, h8⟩, ⟨h9, h10⟩, h12⟩
    exact ⟨_, _, _, ⟨l, h1, h2, r, h3, h4, h5, h6, h7, h8, h9, h10, rfl, rfl⟩, h12⟩
  | _ => simp [aH]
 | _ => simp [rR, pG]
theorem TW {t t2 : TypeId} {x y : Operand} : go (aN E ops clk k (⟨d, .call { callee := .builtin .append, args := ⟨[x, y]⟩, argTypes := ⟨[t, t2]⟩ }, ty, pos, af, none⟩ :: os) K ⟨f, rows, bL, aO⟩) =
  aH (t2 = t ∨ WU (E.ty t2) = true) (rR (E.ty t) (dP .any ops k aO rows) (aQ f x) (aQ f y) clk (d.getD 0) fun v id r => aH (yV .any ops k id bL) (aN E ops (clk + 1) (k + 1) os K ⟨put f d v, dF rows id (some r), kD k (aZ (aQ f x) ++ aZ (aQ f y)) bL, nY k id aO⟩)) := by
 show aN E ops clk k (⟨d, .call { callee := .builtin .append, args := ⟨[x, y]⟩, argTypes := ⟨[t, t2]⟩ }, ty, pos, af, none⟩ :: os) K ⟨f, rows, bL, aO⟩ = _
 rw [HX]
 congr 1
 exact YM
theorem YN {s : Tmp} {args : Array Operand} {ts : Array TypeId} : go (aN E ops clk k (⟨d, .call { callee := .value (.tmp s), args := args, argTypes := ts }, ty, pos, af, none⟩ :: os) K ⟨f, rows, bL, aO⟩) = nZ E (f s) (args.toList.map (aQ f)) (dP .any ops k aO rows) fun v => aN E ops clk (k + 1) os K ⟨put f d v, rows, bL, aO⟩ := CT rfl
def qN (P : Program) (g : FuncId) (args : List PV) (c : Prop) (K : TypeId → Nat → List (List PV) → Prop) : Prop := ∃ e n els, (args.all eY = true ∧ gH P g args e n els ∧ c) ∧ K e n els
@[congr] theorem aca {P : Program} {g : FuncId} {args HV : List PV} {c c' : Prop} {K : TypeId → Nat → List (List PV) → Prop} (h : args = HV) (hc : c = c') : qN P g args c K = qN P g HV c' K := by rw [h, hc]
@[simp] theorem aih {P : Program} {g : FuncId} {args : List PV} {c : Prop} {K : TypeId → Nat → List (List PV) → Prop} : go (qN P g args c K) = qN P g args c K := rfl
theorem C2 {P : Program} {g : FuncId} {args : List PV} {c : Prop} {K : TypeId → Nat → List (List PV) → Prop} {e : TypeId} {n : Nat} {els : List (List PV)} (h : gH P g args e n els) (hp : args.all eY = true) (hc : c) (hK : go (K e n els)) : qN P g args c K := ⟨e, n, els, ⟨hp, h, hc⟩, hK⟩
theorem YO {g : FuncId} {args : Array Operand} {ts : Array TypeId} : go (aN E ops clk k (⟨d, .call { callee := .value (.func g), args := args, argTypes := ts }, ty, pos, af, none⟩ :: os) K ⟨f, rows, bL, aO⟩) =
  if E.writes g = true then qN E.P g (args.toList.map (aQ f)) (yV .any ops k (d.getD 0) bL) (fun e n els => aN E ops (clk + 1) (k + 1) os K ⟨put f d (.own (d.getD 0) clk 0 els.length), dF rows (d.getD 0) (some ⟨clk, e, n, els⟩), bL, nY k (d.getD 0) aO⟩)
  else nZ E (.fn g []) (args.toList.map (aQ f)) (dP .any ops k aO rows) fun v => aN E ops clk (k + 1) os K ⟨put f d v, rows, bL, aO⟩ := by
 split
 ·rename_i hw; exact MV hw
 ·rename_i hw; exact CT (by simpa [cU] using hw)
theorem IF {g : FuncId} {bT : Array Operand} : go (aN E ops clk k (⟨d, .makeFunc (.func g) ⟨[]⟩ bT, ty, pos, af, none⟩ :: os) K ⟨f, rows, bL, aO⟩) = aH ((bT.toList.map fun x => aQ f x).all eY = true) (aN E ops clk (k + 1) os K ⟨put f d (.fn g (bT.toList.map fun x => aQ f x)), rows, bL, aO⟩) := BT
theorem YP {op : Op} {j : Nat} {want : Bool} : go (aN E ops clk k (⟨d, op, ty, pos, af, some (j, want)⟩ :: os) K ⟨f, rows, bL, aO⟩) = n3 (BU ops j) f want (aN E ops clk k (⟨d, op, ty, pos, af, none⟩ :: os) K ⟨f, rows, bL, aO⟩) (aN E ops clk (k + 1) os K ⟨put f d (.eP []), rows, bL, aO⟩) := by
 rw [EX, ← H4]; rfl
theorem YQ {σ : PS} : go (aL E ops [] K σ) = K σ := rfl
theorem aii {st : ST} : go (aN E ops clk k [] K st) = go (K ⟨st.f, st.rows, clk⟩) := rfl
@[simp] theorem QC {s : Nat} : aQ f (.tmp s) = f s := rfl
@[simp] theorem anh {g : FuncId} : aQ f (.func g) = .fn g [] := rfl
@[simp] theorem TX {v : Value} : aQ f (.const v) = mP v := rfl
end
@[simp] theorem aij {k : IntKind} {n : Int} : mP (.int k n) = .int k n := rfl
@[simp] theorem afS {b : Bool} : mP (.bool b) = .bool b := rfl
@[simp] theorem M3 {s : ByteArray} : mP (.string s) = .str s := rfl
@[simp] theorem afT : mP (.pointer none) = .jK := rfl
@[simp] theorem afU : iC (.pointer none) = .jK := rfl
@[simp] theorem aik : mP (.slice none 0 0) = .nil := rfl
@[simp] theorem ail {cs : List Value} : mP (.agg ⟨cs⟩) = .ag (cs.map iC) := rfl
@[simp] theorem aim {k : IntKind} {n : Int} : iC (.int k n) = .int k n := rfl
@[simp] theorem afV {b : Bool} : iC (.bool b) = .bool b := rfl
@[simp] theorem ain {s : ByteArray} : iC (.string s) = .str s := rfl
@[simp] theorem aio : iC (.slice none 0 0) = .nil := rfl
@[simp] theorem ani (R K : PV → Prop) : go (aU R K) = aU R K := rfl
@[simp] theorem anj (p : PV) (w : Bool) (A B : Prop) : go (stepG p w A B) = stepG p w A B := rfl
@[simp] theorem ank (p : PV) (w : Bool) (A B : Prop) : go (gM p w A B) = gM p w A B := rfl
@[simp] theorem anl (A B : Prop) : go (aH A B) = aH A B := rfl
@[simp] theorem anm (P : Program) (g : FuncId) (l : List PV) (K : PV → Prop) : go (tB P g l K) = tB P g l K := rfl
@[simp] theorem aip (o : Option Row) (v : Nat) (K : Row → Prop) : go (bJ o v K) = bJ o v K := rfl
@[simp] theorem asP (l : List (List PV)) (i : Nat) (K : List PV → Prop) : go (CU l i K) = CU l i K := rfl
@[simp] theorem asQ (t : TI) (l : List PV) (j : Nat) (K : PV → Prop) : go (wI t l j K) = wI t l j K := rfl
@[simp] theorem ale (E : Env) (t : TypeId) (r : Rows) (p : PV) (K : PV → Prop) : go (jW E t r p K) = jW E t r p K := rfl
@[simp] theorem aiq (t : TI) (i : Nat) (x : PV) (K : PV → Prop) : go (i9 t i x K) = i9 t i x K := rfl
@[simp] theorem aqC (p : Nat × Nat × Bool) (l : List PV) (K : PV → Prop) : go (EV p l K) = EV p l K := rfl
@[simp] theorem ann (r : Rows) (x : PV) (K : PV → Prop) : go (rP r x K) = rP r x K := rfl
@[simp] theorem YR (t : TI) (r : Rows) (i : Nat) (x : PV) (K : PV → Prop) : go (c7 t r i x K) = c7 t r i x K := rfl
@[simp] theorem YS (t : TI) (r : Rows) (x y : PV) (K : PV → Prop) : go (bV t r x y K) = bV t r x y K := rfl
@[simp] theorem asR (d : Nat) (o : Option PV) (K : Nat → Prop) : go (wK d o K) = wK d o K := rfl
@[simp] theorem air (t : TI) (r : Rows) (x : PV) (a b c : Option PV) (K : PV → Prop) : go (eQ t r x a b c K) = eQ t r x a b c K := rfl
@[simp] theorem ano (t : TI) (r : Rows) (x : PV) (K : PV → Prop) : go (kP t r x K) = kP t r x K := rfl
@[simp] theorem ais (E : Env) (t : TypeId) (r : Rows) (p x : PV) (K : Nat → Row → Prop) : go (jA E t r p x K) = jA E t r p x K := rfl
@[simp] theorem anp (r : Rows) (y : PV) (K : List (List PV) → Prop) : go (jN r y K) = jN r y K := rfl
@[simp] theorem anq (t : TI) (r : Rows) (x y : PV) (c d : Nat) (K : PV → Rows → Nat → Prop) : go (pK t r x y c d K) = pK t r x y c d K := rfl
@[simp] theorem anr (t : TI) (x y : PV) (K : TypeId → Nat → List PV → Int → Prop) : go (pI t x y K) = pI t x y K := rfl
@[simp] theorem alf (E : Env) (p : PV) (l : List PV) (r : Rows) (clk : Nat) (K : PV → Rows → Nat → Prop) : go (pJ E p l r clk K) = pJ E p l r clk K := rfl
@[simp] theorem ans (P : Program) (g : FuncId) (l : List PV) (r : Rows) (clk : Nat) (K : PV → Rows → Nat → Prop) : go (vZ P g l r clk K) = vZ P g l r clk K := rfl
@[simp] theorem alg (E : Env) (p : PV) (l : List PV) (r : Rows) (K : PV → Prop) : go (nZ E p l r K) = nZ E p l r K := rfl
@[simp] theorem ant {fs : List (Nat × Nat × Bool)} {ps : List (Nat × PV)} {z : List PV} {K : List PV → Prop} : go (lC fs ps z K) = lC fs ps z K := rfl
@[simp] theorem ait {t : TI} {ps : List (Nat × PV)} {K : PV → Prop} : go (j7 t ps K) = j7 t ps K := rfl
@[simp] theorem alh {n k : Nat} {ps : List (Nat × PV)} {K : List (List PV) → Prop} : go (iE n k ps K) = iE n k ps K := rfl
@[simp] theorem anu {t : TI} {rows : Rows} {len : Nat} {ps : List (Nat × PV)} {K : PV → Prop} : go (tD t rows len ps K) = tD t rows len ps K := rfl
@[simp] theorem anv {i : Nat} {x : PV} {K : PV → Prop} : go (tE i x K) = tE i x K := rfl
@[simp] theorem aqD {α : Type} (o : Option α) (K : α → Prop) : go (eK o K) = eK o K := rfl
@[simp] theorem avJ {α : Type} (p : α → Prop) : go (∃ x, p x) = ∃ x, go (p x) := rfl
@[simp] theorem anw : go False = False := rfl
@[simp] theorem avK {p : Prop} : go (go p) = go p := rfl
@[simp] theorem afW {t : PV} {K : PV → Prop} : aU (fun v => v = t) K = go (K t) := i7
@[simp] theorem asS {t : PV} {K : PV → Prop} : aU (fun v => t = v) K = go (K t) := TD
@[simp] theorem ac6 {B : Prop} : aH True B = go B := MF
@[simp] theorem avL {A B : Prop} : stepG (.bool true) true A B = go A := XN
@[simp] theorem avM {A B : Prop} : stepG (.bool true) false A B = go B := XO
@[simp] theorem avN {A B : Prop} : stepG (.bool false) true A B = go B := XP
@[simp] theorem avO {A B : Prop} : stepG (.bool false) false A B = go A := XQ
@[simp] theorem avP {w : Bool} {A B : Prop} : stepG (.eP []) w A B = go B := XR
@[simp] theorem avQ {A B : Prop} : gM (.bool true) true A B = go A := XK
@[simp] theorem avR {A B : Prop} : gM (.bool true) false A B = go B := XL
@[simp] theorem avS {A B : Prop} : gM (.bool false) true A B = go B := XM
@[simp] theorem avT {A B : Prop} : gM (.bool false) false A B = go A := XS
theorem gA {c B : Prop} (h : c) : aH c B = go B := by simp [aH, go, h]
attribute [simp] iN XJ y4 XT ahR MG ES QB C0 acZ X9 anc EZ MZ ac0 YA E0 E1 YB YC IB IC IE ah7 ah8 ah9 BV YD YE aia E2 TU ac1 ID YF ac2 TV ac3 aib ane ac4 M0 ac5 YH E3 E4 YI YJ aic aid aie BW YK YL aif E5 TW YN YO IF YP YQ aii
attribute [simp] WU EA yun rI rW LK LM pI pJ nZ rH TI.known TI.size TI.zero TI.agg XD acN HR room
theorem BX {E : Env} {ops : List Oper} {K : PS → Prop} {f : Nat → PV} {rows : Rows} {clk : Nat} : fP E 0 ops K ⟨f, rows, clk⟩ = aN E ops clk 0 ops K ⟨f, rows, fun _ _ => False, fun _ _ => False⟩ := by simp [fP]
@[simp] theorem ali {b : Bool} : eY (.bool b) = true := rfl
@[simp] theorem aiu {b : Bool} : bZ (.bool b) = true := rfl
@[simp] theorem alj {b : Bool} : aZ (.bool b) = [] := rfl
@[simp] theorem alk {rows : Rows} {b : Bool} : gU rows (.bool b) = True := rfl
@[simp] theorem afX {b : Bool} : bP (.bool b) = some [.bool b] := rfl
@[simp] theorem afY {b : Bool} : eA (.bool b) = some [.bool b] := rfl
@[simp] theorem anx {k : IntKind} {n : Int} : eY (.int k n) = true := rfl
@[simp] theorem alm {k : IntKind} {n : Int} : bZ (.int k n) = true := rfl
@[simp] theorem anz {k : IntKind} {n : Int} : aZ (.int k n) = [] := rfl
@[simp] theorem anA {rows : Rows} {k : IntKind} {n : Int} : gU rows (.int k n) = True := rfl
@[simp] theorem aiv {k : IntKind} {n : Int} : bP (.int k n) = some [.int k n] := rfl
@[simp] theorem aiw {k : IntKind} {n : Int} : eA (.int k n) = some [.int k n] := rfl
@[simp] theorem anB {s : ByteArray} : eY (.str s) = true := rfl
@[simp] theorem aln {s : ByteArray} : bZ (.str s) = true := rfl
@[simp] theorem anC {s : ByteArray} : aZ (.str s) = [] := rfl
@[simp] theorem anD {rows : Rows} {s : ByteArray} : gU rows (.str s) = True := rfl
@[simp] theorem aix {s : ByteArray} : bP (.str s) = some [.str s] := rfl
@[simp] theorem aiy {s : ByteArray} : eA (.str s) = some [.str s] := rfl
@[simp] theorem alp  : eY .jK = true := rfl
@[simp] theorem aiz  : bZ .jK = true := rfl
@[simp] theorem alq  : aZ .jK = [] := rfl
@[simp] theorem alr  : dC .jK = [] := rfl
@[simp] theorem aqE {rows : Rows} : fz rows .jK = .jK := rfl
@[simp] theorem aqF {rows : Rows} : pz rows .jK = .jK := rfl
@[simp] theorem als {rows : Rows}  : gU rows .jK = True := rfl
@[simp] theorem afZ  : bP .jK = some [.jK] := rfl
@[simp] theorem af0  : eA .jK = some [.jK] := rfl
@[simp] theorem anE  : eY .nil = true := rfl
@[simp] theorem alu  : bZ .nil = true := rfl
@[simp] theorem anF  : aZ .nil = [] := rfl
@[simp] theorem anG {rows : Rows}  : gU rows .nil = True := rfl
@[simp] theorem aiA  : bP .nil = some [.nil] := rfl
@[simp] theorem aiB  : eA .nil = some [.nil] := rfl
@[simp] theorem aqG {l : List (List PV)} : eY (.sl l) = true := rfl
@[simp] theorem anH {l : List (List PV)} : bZ (.sl l) = true := rfl
@[simp] theorem aqH {l : List (List PV)} : aZ (.sl l) = [] := rfl
@[simp] theorem aqI {rows : Rows} {l : List (List PV)} : gU rows (.sl l) = True := rfl
@[simp] theorem alv {l : List (List PV)} : bP (.sl l) = some [.sl l] := rfl
@[simp] theorem alw {l : List (List PV)} : eA (.sl l) = some [.sl l] := rfl
@[simp] theorem anI {l : List (List PV)} : eY (.i3 l) = true := rfl
@[simp] theorem alx {l : List (List PV)} : bZ (.i3 l) = true := rfl
@[simp] theorem anJ {l : List (List PV)} : aZ (.i3 l) = [] := rfl
@[simp] theorem anK {rows : Rows} {l : List (List PV)} : gU rows (.i3 l) = True := rfl
@[simp] theorem aiC {l : List (List PV)} : bP (.i3 l) = some [.i3 l] := rfl
@[simp] theorem aiD {l : List (List PV)} : eA (.i3 l) = some [.i3 l] := rfl
@[simp] theorem ac7 {l : List PV} : eY (.rd l) = true := rfl
@[simp] theorem YT {l : List PV} : bZ (.rd l) = true := rfl
@[simp] theorem ac8 {l : List PV} : aZ (.rd l) = [] := rfl
@[simp] theorem aqJ {rows : Rows} {l : List PV} : gU rows (.rd l) = True := rfl
@[simp] theorem aly {l : List PV} : bP (.rd l) = some [.rd l] := rfl
@[simp] theorem alz {l : List PV} : eA (.rd l) = some [.rd l] := rfl
@[simp] theorem aqK {f : FuncId} {l : List PV} : eY (.fn f l) = true := rfl
@[simp] theorem anL {f : FuncId} {l : List PV} : bZ (.fn f l) = true := rfl
@[simp] theorem aqL {f : FuncId} {l : List PV} : aZ (.fn f l) = [] := rfl
@[simp] theorem aqM {rows : Rows} {f : FuncId} {l : List PV} : gU rows (.fn f l) = True := rfl
@[simp] theorem alA {f : FuncId} {l : List PV} : bP (.fn f l) = some [.fn f l] := rfl
@[simp] theorem alB {f : FuncId} {l : List PV} : eA (.fn f l) = some [.fn f l] := rfl
@[simp] theorem aqN {l : List PV} : eY (.ag l) = l.all bZ := rfl
@[simp] theorem anM {l : List PV} : eY (.eP l) = true := rfl
@[simp] theorem alC {l : List PV} : bP (.ag l) = some l := rfl
@[simp] theorem alD {l : List PV} : eA (.ag l) = some l := rfl
@[simp] theorem anN {id v o l : Nat} : aZ (.own id v o l) = [id] := rfl
@[simp] theorem anO {id v o l : Nat} : aZ (.ptr id v o l) = [id] := rfl
@[simp] theorem aiE {id v o l : Nat} : bP (.own id v o l) = some [.own id v o l] := rfl
@[simp] theorem aiF {id v o l : Nat} : bP (.ptr id v o l) = some [.ptr id v o l] := rfl
def rowAt (o : Option Row) (ver : Nat) : Prop := ∃ r, o = some r ∧ r.ver = ver
@[simp] theorem aiG {r : Row} {ver : Nat} : rowAt (some r) ver = (r.ver = ver) := by simp [rowAt]
@[simp] theorem anP {rows : Rows} {id v o l : Nat} : gU rows (.own id v o l) = rowAt (rows id) v := rfl
@[simp] theorem anQ {rows : Rows} {id v o l : Nat} : gU rows (.ptr id v o l) = rowAt (rows id) v := rfl
@[simp] theorem alE {e l : List PV} {j : Nat} : gN [e] 0 j l = [e.take j ++ l ++ e.drop (j + l.length)] := by simp [gN]
@[simp] theorem alF {e : List PV} {n : Nat} : rQ [e] 0 n = (n ≤ e.length) := by simp [rQ]
@[simp] theorem alG {E : Env} {σ : PS} {t : Tmp} {rs : List ResultVar} {K : List PV → Prop} : oN E σ (.tmp t :: rs) K = oN E σ rs fun vs => K (σ.f t :: vs) := rfl
@[simp] theorem alH {E : Env} {σ : PS} {K : List PV → Prop} : oN E σ [] K = K [] := rfl
@[simp] theorem aiH {E : Env} {σ : PS} {a : Tmp} {t : TypeId} {rs : List ResultVar} {K : List PV → Prop} : oN E σ (.cell a t :: rs) K = jW E t σ.rows (σ.f a) fun v => oN E σ rs fun vs => K (v :: vs) := by
 show (∃ v, rG E t σ.rows (σ.f a) v ∧ oN E σ rs fun vs => K (v :: vs)) = _
 rw [← r8]; rfl
@[simp] theorem ac9 {E : Env} {ops : List Oper} {K : PS → Prop} {f : Nat → PV} {rows : Rows} {clk : Nat} : go (fP E 0 ops K ⟨f, rows, clk⟩) = go (aN E ops clk 0 ops K ⟨f, rows, fun _ _ => False, fun _ _ => False⟩) := BX
theorem wrap_i64 {n : Int} (h1 : -9223372036854775808 ≤ n) (h2 : n < 9223372036854775808) : IntKind.i64.wrap n = n := by
 have e : IntKind.i64.wrap n = if n % 18446744073709551616 ≥ 9223372036854775808 then n % 18446744073709551616 - 18446744073709551616 else n % 18446744073709551616 := by
  simp [IntKind.wrap, IntKind.bits, IntKind.signed]
 rw [e]
 split <;> omega
theorem wrap_u64 {n : Int} (h1 : 0 ≤ n) (h2 : n < 18446744073709551616) : IntKind.u64.wrap n = n := by
 simp only [IntKind.wrap, IntKind.bits, IntKind.signed, Bool.false_and, Bool.false_eq_true, if_false]
 omega
theorem wrap_u32 {n : Int} (h1 : 0 ≤ n) (h2 : n < 4294967296) : IntKind.u32.wrap n = n := by
 simp only [IntKind.wrap, IntKind.bits, IntKind.signed, Bool.false_and, Bool.false_eq_true, if_false]
 omega
theorem wA : (∀ n : Int, -9223372036854775808 ≤ n → n < 9223372036854775808 → IntKind.i64.wrap n = n) ∧ (∀ n : Int, 0 ≤ n → n < 18446744073709551616 → IntKind.u64.wrap n = n) ∧ (∀ n : Int, 0 ≤ n → n < 4294967296 → IntKind.u32.wrap n = n) ∧
  (∀ a b : Int, 0 ≤ a → a.tdiv b = a / b) ∧ (∀ a b : Int, 0 ≤ a → a.tmod b = a % b) := ⟨fun _ => wrap_i64, fun _ => wrap_u64, fun _ => wrap_u32, fun _ _ h => Int.tdiv_eq_ediv_of_nonneg h, fun _ _ h => Int.tmod_eq_emod_of_nonneg h⟩
theorem gw : (∀ {c B : Prop}, c → aH c B = go B) ∧ (∀ n : Int, -9223372036854775808 ≤ n → n < 9223372036854775808 → IntKind.i64.wrap n = n) ∧ (∀ n : Int, 0 ≤ n → n < 18446744073709551616 → IntKind.u64.wrap n = n) ∧ (∀ n : Int, 0 ≤ n → n < 4294967296 → IntKind.u32.wrap n = n) ∧
  (∀ a b : Int, 0 ≤ a → a.tdiv b = a / b) ∧ (∀ a b : Int, 0 ≤ a → a.tmod b = a % b) := ⟨gA, wA⟩
theorem wrap_u8 {n : Int} (h1 : 0 ≤ n) (h2 : n < 256) : IntKind.u8.wrap n = n := by
 simp only [IntKind.wrap, IntKind.bits, IntKind.signed, Bool.false_and, Bool.false_eq_true, if_false]
 omega
theorem iO {n : Int} : IntKind.u64.wrap n = n % 18446744073709551616 := by
 simp only [IntKind.wrap, IntKind.bits, IntKind.signed, Bool.false_and, Bool.false_eq_true, if_false]
 rfl
theorem wrap_u32' {n : Int} : IntKind.u32.wrap n = n % 4294967296 := by
 simp only [IntKind.wrap, IntKind.bits, IntKind.signed, Bool.false_and, Bool.false_eq_true, if_false]
 rfl
section
variable {E : Env} {n : Nat} {tl : Nat → Nat} {Q : PX → PS → Prop} {σ : PS}
theorem W.b8 {id : Nat} {ops : List Oper} (h : ∀ K : PS → Prop, (∀ σ, Q .normal σ → K σ) → go (aL E ops ops K σ)) : W E n tl (.region id ops.toArray false) Q σ := W.HS h
theorem W.M4 {id : Nat} {ops : List Oper} (h : ∀ K : PS → Prop, (∀ σ, Q .normal σ → K σ) → go (fP E (tl id) ops K σ)) : W E n tl (.region id ops.toArray true) Q σ := W.XG h
theorem W.dD {id : Nat} {ops : List Oper} {y : Code} (h : ∀ K : PS → Prop, (∀ σ, W E n tl y Q σ → K σ) → go (aL E ops ops K σ)) : W E n tl (.seq (.region id ops.toArray false) y) Q σ := W.ME h
theorem W.ada {id : Nat} {ops : List Oper} {y : Code} (h : ∀ K : PS → Prop, (∀ σ, W E n tl y Q σ → K σ) → go (fP E (tl id) ops K σ)) : W E n tl (.seq (.region id ops.toArray true) y) Q σ := W.XH h
end
section
variable {E : Env} {n : Nat} {tl : Nat → Nat} {Q : PX → PS → Prop} {σ : PS}
theorem W.a9 {c : Code} (I : Nat → PS → Prop) (k : Nat) (h0 : ∃ σ0, Gh n σ σ0 ∧ I k σ0) (h1 : ∀ k σ, I k σ → W E n tl c (BO (fun σ' => ∃ m σ'', Gh n σ' σ'' ∧ m < k ∧ I m σ'') Q) σ) : W E n tl (.loop c) Q σ := by
 obtain ⟨σ0, hg, h0⟩ := h0
 refine W.ghost hg ?_
 refine W.loop (fun k σ => ∃ σ', Gh n σ σ' ∧ I k σ') k ⟨σ0, fun _ _ _ _ _ h => h, h0⟩ ?_
 rintro k σ ⟨σ', hg, hI⟩
 refine W.ghost hg (W.mono (h1 k σ' hI) fun x τ hx => ?_)
 cases x with
 | normal => obtain ⟨m, σ'', h2, h3, h4⟩ := hx; exact ⟨m, h3, σ'', h2, h4⟩
 | exit id => exact hx
 | ret => exact hx
theorem Gh.refl : Gh n σ σ := fun _ _ _ _ _ h => h
theorem W.YU {c : Operand} {t e : Code} (b : Prop) [Decidable b] (hc : aQ σ.f c = .bool (decide b)) (h1 : b → W E n tl t Q σ) (h2 : ¬ b → W E n tl e Q σ) : W E n tl (.cond c t e) Q σ := W.cond ⟨_, hc, fun h => h1 (of_decide_eq_true h), fun h => h2 (of_decide_eq_false h)⟩
theorem W.ghf {f : Nat → PV} {rows : Rows} {clk : Nat} {c : Code} (l : List (Nat × PV)) (hl : ∀ p ∈ l, f p.1 = p.2) (h : W E n tl c Q ⟨fa l, rows, clk⟩) : W E n tl c Q ⟨f, rows, clk⟩ := by
 have := aC (f := f) (rows := rows) (clk := clk) n (l.map (·.1))
 have e : ((l.map (·.1)).map fun i => (i, f i)) = l := by
  rw [List.map_map]
  conv => rhs; rw [← List.map_id l]
  exact List.map_congr_left fun p hp => by simp [hl p hp]
 rw [e] at this
 exact W.ghost this h
theorem Gh.fr {f : Nat → PV} {rows : Rows} {clk : Nat} (l : List (Nat × PV)) (hl : ∀ p ∈ l, f p.1 = p.2) : Gh n ⟨f, rows, clk⟩ ⟨fa l, rows, clk⟩ := by
 have := aC (f := f) (rows := rows) (clk := clk) n (l.map (·.1))
 have e : ((l.map (·.1)).map fun i => (i, f i)) = l := by
  rw [List.map_map]
  conv => rhs; rw [← List.map_id l]
  exact List.map_congr_left fun p hp => by simp [hl p hp]
 rw [e] at this
 exact this
end
theorem aB {E : Env} {CS : FuncId} {fn : Func} {code : Code} (tl : Nat → Nat) {args : List PV} {r : PV} (l : List (Nat × PV)) (h1 : E.P.funcs[CS]? = some fn) (h2 : fn.body = some code) (h3 : (fn.name == "runtime.NumGoroutine") = false)
  (fK : eB E fn.ntmps tl code = true) (fO : args.length ≤ fn.ntmps) (hl : ∀ p ∈ l, args.getD p.1 .undef = p.2) (h : W E fn.ntmps tl code (acN E fn.results.toList r) ⟨fa l, fun _ => none, 0⟩) : aJ E.P CS args r :=
 XI tl h1 h2 h3 fK fO (W.ghf l (by simpa using hl) h)
end Pm
namespace Pm
@[simp] theorem aqO {a : Int} : Int.fdiv a 4294967296 = a / 4294967296 := Int.fdiv_eq_ediv_of_nonneg a (by decide)
@[simp] theorem aqP {a : Int} : Int.fdiv a 9223372036854775808 = a / 9223372036854775808 := Int.fdiv_eq_ediv_of_nonneg a (by decide)
attribute [simp] Go.IntKind.bits
end Pm
namespace Pm
open Go Go.RowKit
section
variable {E : Env} {n : Nat} {tl : Nat → Nat} {Q : PX → PS → Prop} {σ : PS}
theorem W.fY {x y : Code} (J : PS → Prop) (h : W E n tl x (BO (fun σ => ∃ σ', Gh n σ σ' ∧ J σ') Q) σ) (hy : ∀ σ, J σ → W E n tl y Q σ) : W E n tl (.seq x y) Q σ :=
 W.seq (W.mono h fun x σ hx => by
  cases x with
  | normal => obtain ⟨σ', hg, hJ⟩ := hx; exact W.ghost hg (hy σ' hJ)
  | exit id => exact hx
  | ret => exact hx)
def M5 (J : PS → Prop) (Q : PX → PS → Prop) : PX → PS → Prop
 | .normal, σ => J σ
 | .exit id, σ => Q (.exit id) σ
 | .ret, σ => Q .ret σ
theorem W.eM {id : Nat} {x y : Code} (J : PS → Prop) (h : W E n tl x (BP id (M5 (fun σ => ∃ σ', Gh n σ σ' ∧ J σ') Q)) σ) (hy : ∀ σ, J σ → W E n tl y Q σ) : W E n tl (.seq (.block id x) y) Q σ :=
 W.seq (W.block (W.mono h fun x σ hx => by
  cases x with
  | normal => obtain ⟨σ', hg, hJ⟩ := hx; exact W.ghost hg (hy σ' hJ)
  | exit j =>
   simp only [BP] at hx ⊢
   split
   ·rename_i hj; rw [if_pos hj] at hx; obtain ⟨σ', hg, hJ⟩ := hx; exact W.ghost hg (hy σ' hJ)
   ·rename_i hj; rw [if_neg hj] at hx; exact hx
  | ret => exact hx))
theorem W.gW {id : Nat} {ops : List Oper} {y : Code} (J : PS → Prop) (h : ∀ K : PS → Prop, (∀ σ σ', Gh n σ σ' → J σ' → K σ) → go (aL E ops ops K σ)) (hy : ∀ σ, J σ → W E n tl y Q σ) : W E n tl (.seq (.region id ops.toArray false) y) Q σ :=
 W.dD fun K hK => h K fun σ _ hg hJ => hK σ (W.ghost hg (hy _ hJ))
@[simp] theorem af1 {J : PS → Prop} : M5 J Q .normal σ = J σ := rfl
@[simp] theorem anR {J : PS → Prop} : M5 J Q .ret σ = Q .ret σ := rfl
@[simp] theorem alI {J : PS → Prop} {id : Nat} : M5 J Q (.exit id) σ = Q (.exit id) σ := rfl
@[simp] theorem af2 {J : PS → Prop} : BO J Q .normal σ = J σ := rfl
@[simp] theorem anS {J : PS → Prop} : BO J Q .ret σ = Q .ret σ := rfl
@[simp] theorem alJ {J : PS → Prop} {id : Nat} : BO J Q (.exit id) σ = Q (.exit id) σ := rfl
@[simp] theorem af3 {id : Nat} : BP id Q .normal σ = Q .normal σ := rfl
@[simp] theorem anT {id : Nat} : BP id Q .ret σ = Q .ret σ := rfl
@[simp] theorem alK {id j : Nat} : BP id Q (.exit j) σ = if j = id then Q .normal σ else Q (.exit j) σ := rfl
theorem pX : (∀ (Q : PX → PS → Prop) (σ : PS) (id j : Nat), BP id Q (.exit j) σ = if j = id then Q .normal σ else Q (.exit j) σ) ∧ (∀ (Q : PX → PS → Prop) (σ : PS) (id : Nat), BP id Q .normal σ = Q .normal σ) ∧ (∀ (Q : PX → PS → Prop) (σ : PS) (id : Nat), BP id Q .ret σ = Q .ret σ) ∧
  (∀ (J : PS → Prop) (Q : PX → PS → Prop) (σ : PS) (id : Nat), BO J Q (.exit id) σ = Q (.exit id) σ) ∧ (∀ (J : PS → Prop) (Q : PX → PS → Prop) (σ : PS), BO J Q .normal σ = J σ) ∧ (∀ (J : PS → Prop) (Q : PX → PS → Prop) (σ : PS), BO J Q .ret σ = Q .ret σ) ∧
  (∀ (J : PS → Prop) (Q : PX → PS → Prop) (σ : PS) (id : Nat), M5 J Q (.exit id) σ = Q (.exit id) σ) ∧ (∀ (J : PS → Prop) (Q : PX → PS → Prop) (σ : PS), M5 J Q .normal σ = J σ) ∧ (∀ (J : PS → Prop) (Q : PX → PS → Prop) (σ : PS), M5 J Q .ret σ = Q .ret σ) :=
 ⟨fun _ _ _ _ => rfl, fun _ _ _ => rfl, fun _ _ _ => rfl, fun _ _ _ _ => rfl, fun _ _ _ => rfl, fun _ _ _ => rfl, fun _ _ _ _ => rfl, fun _ _ _ => rfl, fun _ _ _ => rfl⟩
end
end Pm
namespace Pm
open Go
theorem anU {P : Program} {g : FuncId} {fH : List PV} {rows : Rows} {clk : Nat} {K : PV → Rows → Nat → Prop} {R : PV → Rows → Nat → Prop} (h : SZ P g fH rows clk R) (hK : ∀ r rows' jU, R r rows' jU → go (K r rows' jU)) : vZ P g fH rows clk K := ⟨R, h, hK⟩
theorem aA {P : Program} {g : FuncId} {args : List PV} {K : PV → Prop} {v : PV} (h : aJ P g args v) (hK : go (K v)) : tB P g args K := ⟨v, h, hK⟩
theorem W.YV {E : Env} {n : Nat} {tl : Nat → Nat} {c : Code} {Q : PX → PS → Prop} {f : Nat → PV} {rows : Rows} {clk : Nat} (l : List Nat) (h : ∀ K : PS → Prop, (∀ σ, W E n tl c Q σ → K σ) → K ⟨fa (l.map fun i => (i, f i)), rows, clk⟩) : W E n tl c Q ⟨f, rows, clk⟩ := W.live l (h _ fun _ h => h)
theorem W.lv {E : Env} {n : Nat} {tl : Nat → Nat} {c : Code} {Q : PX → PS → Prop} {f : Nat → PV} {rows : Rows} {clk : Nat} {K0 : PS → Prop} (l : List Nat) (hK : ∀ σ, W E n tl c Q σ → K0 σ) (h : ∀ K : PS → Prop, (∀ σ, W E n tl c Q σ → K σ) → K ⟨fa (l.map fun i => (i, f i)), rows, clk⟩) : K0 ⟨f, rows, clk⟩ := hK _ (W.YV l h)
inductive Bx (P : PS → Prop) : Type
  | mk
def aW {P : PS → Prop} (_ : Bx P) (σ : PS) : Prop := P σ
theorem W.lw {E : Env} {n : Nat} {tl : Nat → Nat} {c : Code} {Q : PX → PS → Prop} {f : Nat → PV} {rows : Rows} {clk : Nat} {K0 : PS → Prop} (l : List Nat) (hK : ∀ σ, W E n tl c Q σ → K0 σ) (h : aW (Bx.mk (P := W E n tl c Q)) ⟨fa (l.map fun i => (i, f i)), rows, clk⟩) : K0 ⟨f, rows, clk⟩ := hK _ (W.YV l fun _ q => q _ h)
theorem W.lx {E : Env} {n : Nat} {tl : Nat → Nat} {c : Code} {Q : PX → PS → Prop} {f : Nat → PV} {rows : Rows} {clk : Nat} (l : List Nat) (h : aW (Bx.mk (P := W E n tl c Q)) ⟨fa (l.map fun i => (i, f i)), rows, clk⟩) : aW (Bx.mk (P := W E n tl c Q)) ⟨f, rows, clk⟩ := W.YV l fun _ q => q _ h
theorem W.sr {E : Env} {n : Nat} {tl : Nat → Nat} {Q : PX → PS → Prop} {σ : PS} {id : Nat} {ops : List Oper} {y : Code} (h : go (aL E ops ops (aW (Bx.mk (P := W E n tl y Q))) σ)) : W E n tl (.seq (.region id ops.toArray false) y) Q σ := by
  refine W.seq ?_
  intro fK w0 S0 G a w Q' hR hQ
  simp only [eB, pH, Bool.and_eq_true] at fK
  refine wp_region_list (fW (fun σ' a' w' hk kC => hQ .normal σ' a' w' hk kC) _ σ a w (fun o ho t ht => ?_) h hR)
  have := Array.all_eq_true_iff_forall_mem.1 fK.1 o (by simpa using ho)
  simpa [ht] using this
theorem W.sd {E : Env} {n : Nat} {tl : Nat → Nat} {Q : PX → PS → Prop} {σ : PS} {id : Nat} {ops : List Oper} {y : Code} (h : go (fP E (tl id) ops (aW (Bx.mk (P := W E n tl y Q))) σ)) : W E n tl (.seq (.region id ops.toArray true) y) Q σ := by
  refine W.seq ?_
  intro fK w0 S0 G a w Q' hR hQ
  exact rN (by simpa [eB] using fK) h hR fun σ' a' w' hk kC => hQ .normal σ' a' w' hk kC
end Pm
namespace Pm
open Go Go.RowKit
def Wk (p q : PV) : Prop := q = p ∨ (p = .nil ∧ q = .sl [])
theorem Wk.rep {c : Cx} {p q : PV} {v : Value} (h : Wk p q) (hr : aP c p v) : aP c q v := by
 rcases h with rfl | ⟨rfl, rfl⟩
 ·exact hr
 ·simp only [aP, cK] at hr ⊢
  exact ⟨none, 0, by simpa using hr, by simp, by simp, .inl trivial⟩
theorem a7.flat {α β : Type} {R : α → β → Prop} : ∀ {l : List (List α)} {m : List (List β)}, a7 (a7 R) l m → a7 R l.flatten m.flatten
 | [], [], _ => trivial
 | a :: l, b :: m, h => by
  obtain ⟨h1, h2⟩ := h
  have ih := a7.flat h2
  clear h2
  induction a generalizing b with
  | nil => cases b with
   | nil => exact ih
   | cons => exact h1.elim
  | cons x a iha => cases b with
   | nil => exact h1.elim
   | cons y b => exact ⟨h1.1, iha b h1.2⟩
theorem aiI {n id ver e m clk : Nat} {f : Nat → PV} {rows : Rows} {els EI : List (List PV)} (hr : rows id = some ⟨ver, e, m, els⟩) (hw : a7 (a7 fun q p => Wk p q) EI els) : Gh n ⟨f, rows, clk⟩ ⟨f, dF rows id (some ⟨ver, e, m, EI⟩), clk⟩ := by
 rintro w0 S0 G a w ⟨⟨c, rfl, tF, fA, hI, hf, hG⟩, h7, h8⟩
 have jQ : c.rows id = some ⟨ver, e, m, els⟩ := by rw [tF]; exact hr
 obtain ⟨⟨xs, g1, g2, g3⟩, g4, g5, g6⟩ := hI.row id _ jQ
 have hlen : EI.length = els.length := hw.length
 obtain ⟨uP, hA⟩ := hI.dF (w' := c.w) (r' := ⟨ver, e, m, EI⟩) (xs := xs) jQ (World.grownBy.refl _ _) (by simp only [hlen]; exact g1)
  (by
   have h1 := a7.flat hw
   have : ∀ {l : List PV} {k : List PV} {vs : List Value}, a7 (fun q p => Wk p q) l k → a7 (aP c) k vs → a7 (aP c) l vs := by
    intro l
    induction l with
    | nil => intro k vs h h'; cases k with
     | nil => exact h'
     | cons => exact h.elim
    | cons x l ih => intro k vs h h'; cases k with
     | nil => exact h.elim
     | cons y k => cases vs with
      | nil => exact h'.elim
      | cons v vs => exact ⟨h.1.rep h'.1, ih h.2 h'.2⟩
   exact this h1 g2) g3 (fun el kY => by
   obtain ⟨k, hk⟩ := List.getElem?_of_mem kY
   obtain ⟨b, hb, h1⟩ := hw.get hk
   rw [h1.length]
   exact g4 b (List.mem_of_getElem? hb)) rfl rfl hlen
 refine ⟨⟨{ c with rows := dF c.rows id (some ⟨ver, e, m, EI⟩) }, rfl, by simp [tF], fA, uP, fun s => aK.rU hA _ _ (hf s), fun p hp => aK.rU hA _ _ (hG p hp)⟩, h7, h8⟩
theorem aiJ {n s id e m clk : Nat} {f : Nat → PV} {rows : Rows} (hs : f s = .nil) (hm : 0 < m) : Gh n ⟨f, rows, clk⟩ ⟨put f (some s) (.own id clk 0 0), dF rows id (some ⟨clk, e, m, []⟩), clk + 1⟩ := by
 rintro w0 S0 G a w ⟨⟨c, rfl, tF, fA, hI, hf, hG⟩, h7, h8⟩
 obtain ⟨uP, hA⟩ := hI.set (w' := c.w) (ob := none) (id := id) (r' := ⟨clk, e, m, []⟩) (v' := .slice none 0 0) (xs := []) (World.grownBy.refl _ _) (by simp) ⟨by simp, .inl ⟨rfl, rfl⟩⟩ (by simp [a7]) (by simp) (by simp) hm (by simp [Value.ownBlock]) (fun hu => Nat.lt_irrefl _ (fA _ hu))
 refine ⟨⟨{ c with β := dF c.β id (.slice none 0 0), rows := dF c.rows id (some ⟨clk, e, m, []⟩), used := fun v => v = clk ∨ c.used v }, rfl, by simp [tF], fun v hv => by
  show v < clk + 1
  rcases hv with rfl | hv
  ·omega
  ·have : v < clk := fA v hv
   omega, uP, fun t => ?_, fun p hp => aK.rU hA _ _ (hG p hp)⟩, h7, h8⟩
 simp only [put]
 split
 ·rename_i ht
  subst ht
  have h1 := hf t
  simp only at h1
  rw [hs] at h1
  simp only [aK, aP, cK] at h1
  simp only [aK, aP]
  refine ⟨.inl (by first | rfl | trivial), fun r hr hv => ?_⟩
  simp only [fU, Option.some.injEq] at hr
  subst hr
  exact ⟨by simp, .inl ⟨trivial, none, 0, 0, by simp [dF], h1⟩⟩
 ·exact aK.rU hA _ _ (hf t)
theorem IH {α β : Type} {R : α → β → Prop} {x : α} {y : β} (h : R x y) : ∀ k : Nat, a7 R (List.replicate k x) (List.replicate k y)
 | 0 => trivial
 | k + 1 => ⟨h, IH h k⟩
section
variable {E : Env} {n : Nat} {tl : Nat → Nat} {Q : PX → PS → Prop} {c : Code} {f : Nat → PV} {rows : Rows} {clk : Nat}
theorem W.row {id ver e m : Nat} {els : List (List PV)} (EI : List (List PV)) (hr : rows id = some ⟨ver, e, m, els⟩) (hw : a7 (a7 fun q p => Wk p q) EI els) (h : W E n tl c Q ⟨f, dF rows id (some ⟨ver, e, m, EI⟩), clk⟩) : W E n tl c Q ⟨f, rows, clk⟩ := W.ghost (aiI hr hw) h
theorem W.nil (s id e m : Nat) (hs : f s = .nil) (hm : 0 < m) (h : ∀ K : PS → Prop, (∀ σ, W E n tl c Q σ → K σ) → K ⟨put f (some s) (.own id clk 0 0), dF rows id (some ⟨clk, e, m, []⟩), clk + 1⟩) : W E n tl c Q ⟨f, rows, clk⟩ := W.ghost (aiJ hs hm) (h _ fun _ h => h)
end
def fzP (o : Option Row) (ver i j : Nat) : PV :=
 match o with
 | some r => if r.ver = ver then .rd ((r.els.getD i []).drop j) else .undef
 | none => .undef
@[simp] theorem asU {rows : Rows} {id ver i j : Nat} : fz rows (.ptr id ver i j) = fzP (rows id) ver i j := rfl
@[simp] theorem asV {rows : Rows} {id ver i j : Nat} : pz rows (.ptr id ver i j) = fzP (rows id) ver i j := rfl
@[simp] theorem aqQ {ver e n : Nat} {el : List PV} : fzP (some ⟨ver, e, n, [el]⟩) ver 0 0 = .rd el := by simp [fzP]
@[simp] theorem anV {id ver i j : Nat} : dC (.ptr id ver i j) = [id] := rfl
@[simp] theorem af4 {ver e n : Nat} {el : List PV} : cR (some ⟨ver, e, n, [el]⟩) = ∀ p ∈ el, bZ p = true := by simp [cR]
end Pm
namespace Pm
open Go
theorem dR {E : Env} {m : Nat} {ops : List Oper} {K : PS → Prop} {f : Nat → PV} {rows : Rows} {clk : Nat} : go (fP E (m + 1) ops K ⟨f, rows, clk⟩) = go (aN E ops clk 0 (ops.take (ops.length - (m + 1))) (aL E ops (ops.drop (ops.length - (m + 1))) K) ⟨f, rows, fun _ _ => False, fun _ _ => False⟩) := by
 simp [fP]
end Pm
namespace Pm
open Go Go.RowKit
def G6 (rows : Rows) (id : Nat) : PV → PV
 | .own i ver off len => if i = id then fz rows (.own i ver off len) else .own i ver off len
 | .ptr i ver a j => if i = id then fz rows (.ptr i ver a j) else .ptr i ver a j
 | p => p
def E6 (rows : Rows) (id : Nat) : PV → PV
 | .ag l => .ag (l.map (G6 rows id))
 | p => G6 rows id p
theorem E7 {w0 : World} {S0 : dB} {c : Cx} (hI : Inv w0 S0 c) {id : Nat} (hp : ∀ r, c.rows id = some r → ∀ e ∈ r.els, ∀ p ∈ e, bZ p = true) {p : PV} {v : Value} (h : aP c p v) : aP (BF c [id]) (G6 c.rows id p) v := by
 have uM : ∀ i ∈ [id], ∀ r, c.rows i = some r → ∀ e ∈ r.els, ∀ p ∈ e, bZ p = true := by intro i hi; simp at hi; subst hi; exact hp
 have key : ∀ q : PV, aP c q v → (∀ i ∈ aZ q, i ∈ [id]) → (fz c.rows q = .undef ∨ bZ (fz c.rows q) = true) → aP (BF c [id]) (fz c.rows q) v := by
  intro q hq hi ho
  rcases ho with ho | ho
  ·rw [ho]; simp [aP]
  ·exact aP.i4 (EG hI uM hq hi ho)
 cases p with
 | own i ver off len =>
  simp only [G6]
  split
  ·rename_i hi
   subst hi
   refine key _ h (by simp [aZ]) ?_
   simp only [fz]
   cases c.rows i with
   | none => exact .inl rfl
   | some r =>
    simp only
    split
    ·exact .inr rfl
    ·exact .inl rfl
  ·exact aP.rU (kT c [id]) _ _ h
 | ptr i ver a j =>
  simp only [G6]
  split
  ·rename_i hi
   subst hi
   refine key _ h (by simp [aZ]) ?_
   simp only [fz]
   cases c.rows i with
   | none => exact .inl rfl
   | some r =>
    simp only
    split
    ·exact .inr rfl
    ·exact .inl rfl
  ·exact aP.rU (kT c [id]) _ _ h
 | _ => exact aP.rU (kT c [id]) _ _ h
theorem QD {w0 : World} {S0 : dB} {c : Cx} (hI : Inv w0 S0 c) {id : Nat} (hp : ∀ r, c.rows id = some r → ∀ e ∈ r.els, ∀ p ∈ e, bZ p = true) {p : PV} {v : Value} (h : aK c p v) : aK (BF c [id]) (E6 c.rows id p) v := by
 cases p with
 | ag l =>
  obtain ⟨vs, h1, h2⟩ := h
  refine ⟨vs, h1, a7.cW (by simp [h2.length]) fun k a b ha hb => ?_⟩
  simp at ha
  obtain ⟨q, hq, rfl⟩ := ha
  obtain ⟨b', yF, hr⟩ := h2.get hq
  rw [hb] at yF; cases yF
  exact E7 hI hp hr
 | _ =>
  simp only [aK] at h
  have := E7 hI hp h
  simp only [E6]
  exact (by
   first
    | (simp only [G6, aK] at this ⊢; exact this)
    | (simp only [G6] at this ⊢
       split
       · rename_i hi; rw [if_pos hi] at this; simp only [fz] at this ⊢; revert this; split <;> (try split) <;> exact fun h => h
       · rename_i hi; rw [if_neg hi] at this; exact this))
theorem C3 {rows : Rows} {id : Nat} : E6 rows id .undef = .undef := rfl
theorem YW {l : List (Nat × PV)} {g : PV → PV} (hg : g .undef = .undef) : (fun s => g (fa l s)) = fa (l.map fun p => (p.1, g p.2)) := by
 funext s
 induction l with
 | nil => exact hg
 | cons p l ih =>
  obtain ⟨i, v⟩ := p
  simp only [fa, List.map_cons]
  split
  ·rfl
  ·exact ih
theorem TY {n clk : Nat} {l : List (Nat × PV)} {rows : Rows} (id : Nat) (hp : cR (rows id)) : Gh n ⟨fa l, rows, clk⟩ ⟨fa (l.map fun p => (p.1, E6 rows id p.2)), CN rows [id], clk⟩ := by
 rintro w0 S0 G a w ⟨⟨c, rfl, tF, fA, hI, hf, hG⟩, h7, h8⟩
 have YX : c.rows = rows := tF
 subst YX
 refine ⟨⟨BF c [id], rfl, rfl, fA, hI.freeze [id], fun s => ?_, fun p hp => aK.rU (kT c [id]) _ _ (hG p hp)⟩, h7, h8⟩
 rw [← YW (g := E6 c.rows id) C3]
 exact QD hI hp (hf s)
theorem W.freeze {E : Env} {n : Nat} {tl : Nat → Nat} {Q : PX → PS → Prop} {c : Code} {l : List (Nat × PV)} {rows : Rows} {clk : Nat} (id : Nat) (hp : cR (rows id)) (h : ∀ K : PS → Prop, (∀ σ, W E n tl c Q σ → K σ) → K ⟨fa (l.map fun p => (p.1, E6 rows id p.2)), CN rows [id], clk⟩) : W E n tl c Q ⟨fa l, rows, clk⟩ := W.ghost (TY id hp) (h _ fun _ h => h)
@[simp] theorem aqR {rows : Rows} {id i ver off len : Nat} : E6 rows id (.own i ver off len) = if i = id then fzR (rows i) ver off len else .own i ver off len := rfl
@[simp] theorem aqS {rows : Rows} {id i ver a j : Nat} : E6 rows id (.ptr i ver a j) = if i = id then fzP (rows i) ver a j else .ptr i ver a j := rfl
@[simp] theorem aqT {α : Type} {g : α → List PV} {rows : Rows} {id : Nat} {l : List α} : E6 rows id (aI g l) = aI g l := rfl
@[simp] theorem aqU {rows : Rows} {id : Nat} {k : IntKind} {n : Int} : E6 rows id (.int k n) = .int k n := rfl
@[simp] theorem anW {rows : Rows} {id : Nat} {b : Bool} : E6 rows id (.bool b) = .bool b := rfl
@[simp] theorem aqV {rows : Rows} {id : Nat} : E6 rows id .nil = .nil := rfl
@[simp] theorem asW {rows : Rows} {id : Nat} {l : List (List PV)} : E6 rows id (.sl l) = .sl l := rfl
@[simp] theorem aqW {rows : Rows} {id : Nat} {l : List (List PV)} : E6 rows id (.i3 l) = .i3 l := rfl
@[simp] theorem asX {rows : Rows} {id : Nat} {l : List PV} : E6 rows id (.ag l) = .ag (l.map (G6 rows id)) := rfl
@[simp] theorem aqX {rows : Rows} {id : Nat} {k : IntKind} {n : Int} : G6 rows id (.int k n) = .int k n := rfl
@[simp] theorem anX {rows : Rows} {id : Nat} {b : Bool} : G6 rows id (.bool b) = .bool b := rfl
@[simp] theorem aqY {rows : Rows} {id : Nat} : G6 rows id .nil = .nil := rfl
@[simp] theorem aqZ {α : Type} {g : α → List PV} {rows : Rows} {id : Nat} {l : List α} : G6 rows id (aI g l) = aI g l := rfl
theorem ade {n s clk : Nat} {f : Nat → PV} {rows : Rows} (q : PV) (hs : f s = .nil) (hq : q = .sl []) : Gh n ⟨f, rows, clk⟩ ⟨put f (some s) q, rows, clk⟩ := by
 rintro w0 S0 G a w ⟨⟨c, rfl, tF, fA, hI, hf, hG⟩, h7, h8⟩
 refine ⟨⟨c, rfl, tF, fA, hI, fun t => ?_, hG⟩, h7, h8⟩
 simp only [put]
 split
 ·rename_i ht
  subst ht
  have h1 := hf t
  simp only at h1
  rw [hs] at h1
  subst hq
  simp only [aK] at h1 ⊢
  exact Wk.rep (.inr ⟨rfl, rfl⟩) h1
 ·exact hf t
theorem W.TZ {E : Env} {n : Nat} {tl : Nat → Nat} {Q : PX → PS → Prop} {c : Code} {f : Nat → PV} {rows : Rows} {clk : Nat} (s : Nat) (q : PV) (hs : f s = .nil) (hq : q = .sl []) (h : ∀ K : PS → Prop, (∀ σ, W E n tl c Q σ → K σ) → K ⟨put f (some s) q, rows, clk⟩) : W E n tl c Q ⟨f, rows, clk⟩ := W.ghost (ade q hs hq) (h _ fun _ h => h)
theorem adf {c : Cx} {l : List (List PV)} {v : Value} (hr : aP c (.i3 l) v) : aP c (.sl l) v := by
 simp only [aP, cK] at hr ⊢
 obtain ⟨a, h1, h2, h3⟩ := hr
 exact ⟨a, l.length, h1, Nat.le_refl _, h2, h3⟩
theorem adg {n s clk : Nat} {f : Nat → PV} {rows : Rows} (l : List (List PV)) (q : PV) (hs : f s = .i3 l) (hq : q = .sl l) : Gh n ⟨f, rows, clk⟩ ⟨put f (some s) q, rows, clk⟩ := by
 rintro w0 S0 G a w ⟨⟨c, rfl, tF, fA, hI, hf, hG⟩, h7, h8⟩
 refine ⟨⟨c, rfl, tF, fA, hI, fun t => ?_, hG⟩, h7, h8⟩
 simp only [put]
 split
 ·rename_i ht
  subst ht
  have h1 := hf t
  simp only at h1
  rw [hs] at h1
  subst hq
  simp only [aK] at h1 ⊢
  exact adf h1
 ·exact hf t
theorem W.asY {E : Env} {n : Nat} {tl : Nat → Nat} {Q : PX → PS → Prop} {c : Code} {f : Nat → PV} {rows : Rows} {clk : Nat} (s : Nat) (l : List (List PV)) (q : PV) (hs : f s = .i3 l) (hq : q = .sl l) (h : ∀ K : PS → Prop, (∀ σ, W E n tl c Q σ → K σ) → K ⟨put f (some s) q, rows, clk⟩) : W E n tl c Q ⟨f, rows, clk⟩ := W.ghost (adg l q hs hq) (h _ fun _ h => h)
def zD (rows : Rows) (id : Nat) : Option Row → Option Row
 | some r => some { r with els := r.els.map fun e => e.map (G6 rows id) }
 | none => none
def B2 (rows : Rows) (id : Nat) : Rows := fun j => if j = id then none else zD rows id (rows j)
@[simp] theorem aq0 {rows : Rows} {id j : Nat} : B2 rows id j = if j = id then none else zD rows id (rows j) := rfl
@[simp] theorem af5 {rows : Rows} {id v e n : Nat} {els : List (List PV)} : zD rows id (some ⟨v, e, n, els⟩) = some ⟨v, e, n, els.map fun e => e.map (G6 rows id)⟩ := rfl
@[simp] theorem af6 {rows : Rows} {id : Nat} : zD rows id none = none := rfl
@[simp] theorem aq1 {rows : Rows} {id i ver off len : Nat} : G6 rows id (.own i ver off len) = if i = id then fzR (rows i) ver off len else .own i ver off len := rfl
@[simp] theorem aq2 {rows : Rows} {id i ver a j : Nat} : G6 rows id (.ptr i ver a j) = if i = id then fzP (rows i) ver a j else .ptr i ver a j := rfl
theorem M6 {n clk : Nat} {l : List (Nat × PV)} {rows : Rows} (id : Nat) (hp : cR (rows id)) : Gh n ⟨fa l, rows, clk⟩ ⟨fa (l.map fun p => (p.1, E6 rows id p.2)), B2 rows id, clk⟩ := by
 rintro w0 S0 G a w ⟨⟨c, rfl, tF, fA, hI, hf, hG⟩, h7, h8⟩
 have YX : c.rows = rows := tF
 subst YX
 have HI := hI.freeze [id]
 have live : ∀ {j : Nat} {r' : Row}, B2 c.rows id j = some r' → j ≠ id ∧ ∃ r, c.rows j = some r ∧ r' = { r with els := r.els.map fun e => e.map (G6 c.rows id) } := by
  intro j r' h
  simp only [B2] at h
  split at h
  ·cases h
  ·rename_i hj
   cases hr : c.rows j with
   | none => rw [hr] at h; cases h
   | some r => rw [hr] at h; simp only [zD, Option.some.injEq] at h; exact ⟨hj, r, rfl, h.symm⟩
 have hA : rT (BF c [id]) { BF c [id] with rows := B2 c.rows id } := by
  refine ⟨fun _ _ h => h, fun _ _ _ => rfl, fun _ h => h, fun j r' h => ?_⟩
  obtain ⟨hj, r, hr, rfl⟩ := live h
  exact .inr ⟨r, by simp [BF, CN, hj, hr], rfl, rfl, by simp, rfl⟩
 have hI2 : Inv w0 S0 { BF c [id] with rows := B2 c.rows id } := by
  refine ⟨HI.below, HI.ext, HI.new, HI.lt0, fun j r' h => ?_, fun j r' h => ?_, fun i j r s g hr hs => ?_⟩
  ·obtain ⟨hj, r, hr, rfl⟩ := live h
   exact hI.clock j r hr
  ·obtain ⟨hj, r, hr, rfl⟩ := live h
   obtain ⟨⟨xs, g1, g2, g3⟩, g4, g5, g6⟩ := hI.row j r hr
   obtain ⟨_, _, f5, _⟩ := HI.row j r (by simp [BF, CN, hj, hr])
   refine ⟨⟨xs, by rw [List.length_map]; exact g1, ?_, g3⟩, fun e he => ?_, f5, g6⟩
   ·show a7 _ (List.flatten (r.els.map fun e => e.map (G6 c.rows id))) xs
    rw [← List.map_flatten]
    refine a7.cW (by rw [List.length_map]; exact g2.length) fun k p u uM hu => ?_
    rw [List.getElem?_map] at uM
    obtain ⟨q, hq, rfl⟩ := Option.map_eq_some_iff.1 uM
    obtain ⟨u', SW, jQ⟩ := g2.get hq
    rw [hu] at SW; cases SW
    exact aP.rU hA _ _ (E7 hI hp jQ)
   ·simp only [List.mem_map] at he
    obtain ⟨e', sZ, rfl⟩ := he
    simpa using g4 e' sZ
  ·obtain ⟨hi, r1, B3, rfl⟩ := live hr
   obtain ⟨hj, r2, cJ, rfl⟩ := live hs
   exact hI.apart i j r1 r2 g B3 cJ
 refine ⟨⟨{ BF c [id] with rows := B2 c.rows id }, rfl, rfl, fA, hI2, fun s => ?_, fun p hp => aK.rU hA _ _ (aK.rU (kT c [id]) _ _ (hG p hp))⟩, h7, h8⟩
 show aK _ (fa (l.map fun p => (p.1, E6 c.rows id p.2)) s) _
 rw [← YW (g := E6 c.rows id) C3]
 exact aK.rU hA _ _ (QD hI hp (hf s))
theorem W.E8 {E : Env} {n : Nat} {tl : Nat → Nat} {Q : PX → PS → Prop} {c : Code} {l : List (Nat × PV)} {rows : Rows} {clk : Nat} (id : Nat) (hp : cR (rows id)) (h : ∀ K : PS → Prop, (∀ σ, W E n tl c Q σ → K σ) → K ⟨fa (l.map fun p => (p.1, E6 rows id p.2)), B2 rows id, clk⟩) : W E n tl c Q ⟨fa l, rows, clk⟩ := W.ghost (M6 id hp) (h _ fun _ h => h)
end Pm
