import Derived.Test.YtbbjgncblhfegaaGreatQac
set_option linter.unusedSimpArgs false
set_option linter.unusedVariables false
namespace Pm
open Go Go.RowKit
def emap {α : Type} (g : α → List PV) (l : List α) : List (List PV) := l.map g
def aJ {α : Type} (g : α → List PV) (l : List α) : PV := .sl (emap g l)
def nth {α : Type} [Inhabited α] (l : List α) (i : Nat) : α := l[i]?.getD default
def Enc {α : Type} (g : α → List PV) (n : Nat) : Prop := ∀ x, (g x).length = n
def alX {α : Type} (g : α → List PV) : Prop := ∀ x, (g x).all b5 = true
def bL (o : Option Row) (ver : Nat) (K : Row → Prop) : Prop := ∃ r, o = some r ∧ r.ver = ver ∧ K r
@[congr] theorem abd {o o' : Option Row} {ver : Nat} {K : Row → Prop} (h : o = o') : bL o ver K = bL o' ver K := by rw [h]
@[simp] theorem ab3 {r : Row} {ver : Nat} {K : Row → Prop} : bL (some r) ver K = aH (r.ver = ver) (K r) := by simp [bL, aH]
def B9 (els : List (List PV)) (i : Nat) (K : List PV → Prop) : Prop := ∃ el, els[i]? = some el ∧ K el
@[congr] theorem ajJ {l l' : List (List PV)} {i i' : Nat} {K : List PV → Prop} (h : l = l') (hi : i = i') : B9 l i K = B9 l' i' K := by rw [h, hi]
@[simp] theorem HC {α : Type} [Inhabited α] {g : α → List PV} {l : List α} {i : Nat} {K : List PV → Prop} : B9 (emap g l) i K = aH (i < l.length) (K (g (nth l i))) := by
 simp only [B9, emap, aH, nth]
 apply propext
 constructor
 ·rintro ⟨el, h1, h2⟩
  simp at h1
  obtain ⟨x, h1, rfl⟩ := h1
  have := (List.getElem?_eq_some_iff.1 h1).1
  rw [h1]
  exact ⟨this, h2⟩
 ·rintro ⟨h1, h2⟩
  rw [List.getElem?_eq_getElem h1] at h2
  exact ⟨g l[i], by simp [h1], h2⟩
@[simp] theorem alY {e : List PV} {es : List (List PV)} {K : List PV → Prop} : B9 (e :: es) 0 K = go (K e) := by show _ = K e; simp [B9]
@[simp] theorem alZ {e : List PV} {es : List (List PV)} {i : Nat} {K : List PV → Prop} : B9 (e :: es) (i + 1) K = B9 es i K := by simp [B9]
def j8 {α : Type} (l : List α) (i : Nat) : Option α := l[i]?
@[simp] theorem ajK {α : Type} {x : α} {l : List α} : j8 (x :: l) 0 = some x := rfl
@[simp] theorem ajL {α : Type} {x : α} {l : List α} {n : Nat} : j8 (x :: l) (n + 1) = j8 l n := rfl
def eM {α : Type} (o : Option α) (K : α → Prop) : Prop := ∃ v, o = some v ∧ K v
@[congr] theorem agX {α : Type} {o o' : Option α} {K : α → Prop} (h : o = o') : eM o K = eM o' K := by rw [h]
@[simp] theorem ajM {α : Type} {x : α} {K : α → Prop} : eM (some x) K = go (K x) := by show _ = K x; simp [eM]
def vS (ti : TI) (l : List PV) (j : Nat) (K : PV → Prop) : Prop := if ti.agg = true then aH (j + ti.size ≤ l.length) (K (.ag ((l.drop j).take ti.size))) else eM (j8 l j) K
@[congr] theorem ajN {t t' : TI} {l l' : List PV} {j : Nat} {K : PV → Prop} (h1 : t = t') (h2 : l = l') : vS t l j K = vS t' l' j K := by rw [h1, h2]
@[simp] theorem apw {k : IntKind} {l : List PV} {j : Nat} {K : PV → Prop} : vS (.int k) l j K = eM (j8 l j) K := by simp [vS, TI.agg]
@[simp] theorem al0 {l : List PV} {j : Nat} {K : PV → Prop} : vS .bool l j K = eM (j8 l j) K := by simp [vS, TI.agg]
@[simp] theorem apx {l : List PV} {j : Nat} {K : PV → Prop} : vS .str l j K = eM (j8 l j) K := by simp [vS, TI.agg]
@[simp] theorem ajO {e n b : Nat} {z : List PV} {l : List PV} {j : Nat} {K : PV → Prop} : vS (.slice e n b z) l j K = eM (j8 l j) K := by simp [vS, TI.agg]
@[simp] theorem apy {e m n : Nat} {z : List PV} {l : List PV} {j : Nat} {K : PV → Prop} : vS (.arr e m n z) l j K = aH (j + z.length ≤ l.length) (K (.ag ((l.drop j).take z.length))) := by simp [vS, TI.agg, TI.size, TI.zero]
@[simp] theorem al1 {l : List PV} {j : Nat} {K : PV → Prop} : vS .xZ l j K = eM (j8 l j) K := by simp [vS, TI.agg]
@[simp] theorem apz {l : List PV} {j : Nat} {K : PV → Prop} : vS .fnT l j K = eM (j8 l j) K := by simp [vS, TI.agg]
@[simp] theorem agY {fs : List (Nat × Nat × Bool)} {z : List PV} {l : List PV} {j : Nat} {K : PV → Prop} : vS (.struct fs z) l j K = aH (j + z.length ≤ l.length) (K (.ag ((l.drop j).take z.length))) := by simp [vS, TI.agg, TI.size, TI.zero]
def jN (E : Env) (t : TypeId) (rows : Rows) (p : PV) (K : PV → Prop) : Prop :=
 aH ((E.ty t).known = true) (match p with
 | .rd l => vS (E.ty t) l 0 K
 | .ptr id ver i j => bL (rows id) ver fun r => B9 r.els i fun el => vS (E.ty t) el j K
 | _ => False)
@[congr] theorem ab4 {E : Env} {t : TypeId} {rows : Rows} {p p' : PV} {K : PV → Prop} (h : p = p') : jN E t rows p K = jN E t rows p' K := by rw [h]
@[simp] theorem ajP {E : Env} {t : TypeId} {rows : Rows} {l : List PV} {K : PV → Prop} : jN E t rows (.rd l) K = aH ((E.ty t).known = true) (vS (E.ty t) l 0 K) := rfl
@[simp] theorem agZ {E : Env} {t : TypeId} {rows : Rows} {id ver i j : Nat} {K : PV → Prop} : jN E t rows (.ptr id ver i j) K = aH ((E.ty t).known = true) (bL (rows id) ver fun r => B9 r.els i fun el => vS (E.ty t) el j K) := rfl
theorem HD {ti : TI} {l : List PV} {j : Nat} {K : PV → Prop} : aU (fun v => if ti.agg = true then j + ti.size ≤ l.length ∧ v = .ag ((l.drop j).take ti.size) else l[j]? = some v) K = vS ti l j K := by
 simp only [vS, eM]
 split
 ·rw [iH, iW]
 ·rfl
theorem rP {E : Env} {t : TypeId} {rows : Rows} {p : PV} {K : PV → Prop} : aU (fun v => qR E t rows p v) K = jN E t rows p K := by
 simp only [qR, jN]
 rw [iH]
 congr 1
 cases p with
 | rd l => dsimp only; rw [← HD]; simp [go]
 | ptr id ver i j =>
  simp only [bL, B9, ← HD]
  apply propext; simp only [aU]
  constructor
  ·rintro ⟨v, ⟨r, h1, h2, el, h3, h4⟩, h5⟩; exact ⟨r, h1, h2, el, h3, v, h4, h5⟩
  ·rintro ⟨r, h1, h2, el, h3, v, h4, h5⟩; exact ⟨v, ⟨r, h1, h2, el, h3, h4⟩, h5⟩
 | _ => simp [aU]
def iX (ti : TI) (i : Nat) (x : PV) (K : PV → Prop) : Prop :=
 match ti with
 | .struct fs _ => eM (j8 fs i) fun p => match x with
  | .ag l => if p.2.2 = true then K (.ag ((l.drop p.1).take p.2.1)) else eM (j8 l p.1) K
  | _ => False
 | _ => False
@[congr] theorem abe {t t' : TI} {i : Nat} {x x' : PV} {K : PV → Prop} (h : t = t') (h2 : x = x') : iX t i x K = iX t' i x' K := by rw [h, h2]
def D5 (p : Nat × Nat × Bool) (l : List PV) (K : PV → Prop) : Prop := if p.2.2 = true then K (.ag ((l.drop p.1).take p.2.1)) else eM (j8 l p.1) K
@[simp] theorem ajQ {o n : Nat} {l : List PV} {K : PV → Prop} : D5 (o, n, true) l K = go (K (.ag ((l.drop o).take n))) := by show _ = K _; simp [D5]
@[simp] theorem ag0 {o n : Nat} {l : List PV} {K : PV → Prop} : D5 (o, n, false) l K = eM (j8 l o) K := by simp [D5]
@[congr] theorem ag1 {p p' : Nat × Nat × Bool} {l l' : List PV} {K : PV → Prop} (h : p = p') (h2 : l = l') : D5 p l K = D5 p' l' K := by rw [h, h2]
@[simp] theorem ag2 {fs : List (Nat × Nat × Bool)} {z : List PV} {i : Nat} {l : List PV} {K : PV → Prop} : iX (.struct fs z) i (.ag l) K = eM (j8 fs i) fun p => D5 p l K := rfl
theorem vT {E : Env} {t : TypeId} {i : Nat} {x : PV} {K : PV → Prop} : aU (fun v => rH E t i x v) K = iX (E.ty t) i x K := by
 simp only [rH, iX]
 cases E.ty t with
 | struct fs z =>
  simp only [eM]
  apply propext; simp only [aU]
  cases x with
  | ag l =>
   simp only
   constructor
   ·rintro ⟨v, ⟨o, n, b, h1, h2⟩, h3⟩
    refine ⟨_, h1, ?_⟩
    simp only
    split at h2
    ·rename_i hb; rw [if_pos hb, ← h2]; exact h3
    ·rename_i hb; rw [if_neg hb]; exact ⟨v, h2, h3⟩
   ·rintro ⟨⟨o, n, b⟩, h1, h2⟩
    simp only at h2
    split at h2
    ·rename_i hb; exact ⟨_, ⟨o, n, b, h1, by rw [if_pos hb]⟩, h2⟩
    ·rename_i hb; obtain ⟨v, h3, h4⟩ := h2; exact ⟨v, ⟨o, n, b, h1, by rw [if_neg hb]; exact h3⟩, h4⟩
  | _ => simp
 | _ => simp [aU]
def c8 (ti : TI) (rows : Rows) (i : Nat) (x : PV) (K : PV → Prop) : Prop :=
 match ti with
 | .struct fs _ => eM (j8 fs i) fun p => match x with
  | .rd l => aH (p.1 ≤ l.length) (K (.rd (l.drop p.1)))
  | .ptr id ver a j => bL (rows id) ver fun _ => K (.ptr id ver a (j + p.1))
  | _ => False
 | _ => False
@[congr] theorem OR {t t' : TI} {rows : Rows} {i : Nat} {x x' : PV} {K : PV → Prop} (h : t = t') (h2 : x = x') : c8 t rows i x K = c8 t' rows i x' K := by rw [h, h2]
@[simp] theorem WQ {fs : List (Nat × Nat × Bool)} {z : List PV} {rows : Rows} {i : Nat} {l : List PV} {K : PV → Prop} : c8 (.struct fs z) rows i (.rd l) K = eM (j8 fs i) fun p => aH (p.1 ≤ l.length) (K (.rd (l.drop p.1))) := rfl
@[simp] theorem UR {fs : List (Nat × Nat × Bool)} {z : List PV} {rows : Rows} {i id ver a j : Nat} {K : PV → Prop} : c8 (.struct fs z) rows i (.ptr id ver a j) K = eM (j8 fs i) fun p => bL (rows id) ver fun _ => K (.ptr id ver a (j + p.1)) := rfl
theorem n3 {E : Env} {t : TypeId} {rows : Rows} {i : Nat} {x : PV} {K : PV → Prop} : aU (fun v => eH E t rows i x v) K = c8 (E.ty t) rows i x K := by
 simp only [eH, c8]
 cases E.ty t with
 | struct fs z =>
  simp only [eM]
  apply propext; simp only [aU]
  cases x with
  | rd l =>
   simp only [aH]
   constructor
   ·rintro ⟨v, ⟨o, n, b, h1, h2, rfl⟩, h3⟩; exact ⟨_, h1, h2, h3⟩
   ·rintro ⟨⟨o, n, b⟩, h1, h2, h3⟩; exact ⟨_, ⟨o, n, b, h1, h2, rfl⟩, h3⟩
  | ptr id ver a j =>
   simp only [bL]
   constructor
   ·rintro ⟨v, ⟨o, n, b, h1, ⟨r, h2, h3⟩, rfl⟩, h4⟩; exact ⟨_, h1, r, h2, h3, h4⟩
   ·rintro ⟨⟨o, n, b⟩, h1, r, h2, h3, h4⟩; exact ⟨_, ⟨o, n, b, h1, ⟨r, h2, h3⟩, rfl⟩, h4⟩
  | _ => simp
 | _ => simp [aU]
def bC (n : Nat) (l : List (List PV)) : Prop := ∀ e ∈ l, e.length = n
@[simp] theorem cR {α : Type} {g : α → List PV} {n : Nat} {l : List α} : (Enc g n) → bC n (emap g l) = True := by
 intro h
 simp only [bC, emap, List.mem_map, eq_iff_iff, iff_true]
 rintro e ⟨x, _, rfl⟩
 exact h x
@[simp] theorem ag3 {n : Nat} : bC n [] = True := by simp [bC]
@[simp] theorem aeH {n : Nat} {e : List PV} {l : List (List PV)} : bC n (e :: l) = (e.length = n ∧ bC n l) := by simp [bC]
def bT (ti : TI) (rows : Rows) (x ix : PV) (K : PV → Prop) : Prop :=
 match ti, ix with
 | .slice _ n _ _, .int _ k => aH (0 ≤ k) (match x with
  | .sl l => aH (bC n l) (B9 l k.toNat fun el => K (.rd el))
  | .iS l => aH (bC n l) (B9 l k.toNat fun el => K (.rd el))
  | .own id ver off len => bL (rows id) ver fun r => aH (r.size = n ∧ k.toNat < len) (K (.ptr id ver (off + k.toNat) 0))
  | _ => False)
 | .arr _ m n _, .int _ k => aH (0 ≤ k ∧ k.toNat < m) (match x with
  | .rd l => aH (k.toNat * n ≤ l.length) (K (.rd (l.drop (k.toNat * n))))
  | .ptr id ver a j => bL (rows id) ver fun _ => K (.ptr id ver a (j + k.toNat * n))
  | _ => False)
 | _, _ => False
@[congr] theorem OS {t t' : TI} {rows : Rows} {x x' y y' : PV} {K : PV → Prop} (h : t = t') (h2 : x = x') (h3 : y = y') : bT t rows x y K = bT t' rows x' y' K := by rw [h, h2, h3]
section
variable {α : Type} [Inhabited α] {g : α → List PV} {l : List α} {e n b : Nat} {z : List PV} {rows : Rows} {kk : IntKind} {k : Int} {K : PV → Prop} {els : List (List PV)} {id ver off len : Nat}
@[simp] theorem US : bT (.slice e n b z) rows (aJ g l) (.int kk k) K = aH (0 ≤ k ∧ k.toNat < l.length) (aH (bC n (emap g l)) (K (.rd (g (nth l k.toNat))))) := by
 simp only [bT, aJ, HC, aH, and_assoc]
 apply propext
 constructor
 ·rintro ⟨h1, h2, h3, h4⟩; exact ⟨h1, h3, h2, h4⟩
 ·rintro ⟨h1, h2, h3, h4⟩; exact ⟨h1, h3, h2, h4⟩
@[simp] theorem WR : bT (.slice e n b z) rows (.sl els) (.int kk k) K = aH (0 ≤ k) (aH (bC n els) (B9 els k.toNat fun el => K (.rd el))) := rfl
@[simp] theorem UT : bT (.slice e n b z) rows (.iS els) (.int kk k) K = aH (0 ≤ k) (aH (bC n els) (B9 els k.toNat fun el => K (.rd el))) := rfl
@[simp] theorem UU {m : Nat} {l : List PV} : bT (.arr e m n z) rows (.rd l) (.int kk k) K = aH (0 ≤ k ∧ k.toNat < m) (aH (k.toNat * n ≤ l.length) (K (.rd (l.drop (k.toNat * n))))) := rfl
@[simp] theorem SA {m a j : Nat} : bT (.arr e m n z) rows (.ptr id ver a j) (.int kk k) K = aH (0 ≤ k ∧ k.toNat < m) (bL (rows id) ver fun _ => K (.ptr id ver a (j + k.toNat * n))) := rfl
@[simp] theorem UW : bT (.slice e n b z) rows (.own id ver off len) (.int kk k) K = aH (0 ≤ k) (bL (rows id) ver fun r => aH (r.size = n ∧ k.toNat < len) (K (.ptr id ver (off + k.toNat) 0))) := rfl
end
theorem n4 {E : Env} {t : TypeId} {rows : Rows} {x ix : PV} {K : PV → Prop} : aU (fun v => eI E t rows x ix v) K = bT (E.ty t) rows x ix K := by
 simp only [eI, bT]
 cases E.ty t with
 | slice e n b z =>
  cases ix with
  | int kk k =>
   simp only
   rw [iH]
   congr 1
   cases x with
   | sl l =>
    simp only [aH, B9, bC]
    apply propext; simp only [aU]
    constructor
    ·rintro ⟨v, ⟨el, h1, h2, rfl⟩, h4⟩; exact ⟨h2, el, h1, h4⟩
    ·rintro ⟨h2, el, h1, h4⟩; exact ⟨_, ⟨el, h1, h2, rfl⟩, h4⟩
   | iS l =>
    simp only [aH, B9, bC]
    apply propext; simp only [aU]
    constructor
    ·rintro ⟨v, ⟨el, h1, h2, rfl⟩, h4⟩; exact ⟨h2, el, h1, h4⟩
    ·rintro ⟨h2, el, h1, h4⟩; exact ⟨_, ⟨el, h1, h2, rfl⟩, h4⟩
   | own id ver off len =>
    simp only [aH, bL]
    apply propext; simp only [aU]
    constructor
    ·rintro ⟨v, ⟨r, h1, h2, h3, h4, rfl⟩, h5⟩; exact ⟨r, h1, h2, ⟨h3, h4⟩, h5⟩
    ·rintro ⟨r, h1, h2, ⟨h3, h4⟩, h5⟩; exact ⟨_, ⟨r, h1, h2, h3, h4, rfl⟩, h5⟩
   | _ => simp [aU]
  | _ => simp [aU]
 | arr e m n z =>
  cases ix with
  | int kk k =>
   simp only
   rw [iH]
   congr 1
   cases x with
   | rd l =>
    simp only
    rw [iH, iW]
   | ptr id ver a j =>
    simp only [bL]
    apply propext; simp only [aU]
    constructor
    ·rintro ⟨v, ⟨⟨r, h1, h2⟩, rfl⟩, h3⟩; exact ⟨r, h1, h2, h3⟩
    ·rintro ⟨r, h1, h2, h3⟩; exact ⟨_, ⟨⟨r, h1, h2⟩, rfl⟩, h3⟩
   | _ => simp [aU]
  | _ => simp [aU]
 | _ => simp [aU]
def vU (d : Nat) (o : Option PV) (K : Nat → Prop) : Prop :=
 match o with
 | none => K d
 | some (.int _ k) => aH (0 ≤ k) (K k.toNat)
 | some _ => False
@[congr] theorem ajR {d d' : Nat} {o o' : Option PV} {K : Nat → Prop} (h : d = d') (h2 : o = o') : vU d o K = vU d' o' K := by rw [h, h2]
@[simp] theorem al2 {d : Nat} {K : Nat → Prop} : vU d none K = go (K d) := rfl
@[simp] theorem al3 {d : Nat} {kk : IntKind} {k : Int} {K : Nat → Prop} : vU d (some (.int kk k)) K = aH (0 ≤ k) (K k.toNat) := rfl
theorem L0 {d : Nat} {o : Option PV} {K : Nat → Prop} : vU d o K ↔ ∃ n, sG d o n ∧ K n := by
 cases o with
 | none => simp [vU, sG]
 | some p =>
  cases p with
  | int kk k =>
   simp only [vU, sG, aH]
   constructor
   ·rintro ⟨h1, h2⟩; exact ⟨_, ⟨h1, rfl⟩, h2⟩
   ·rintro ⟨n, ⟨h1, rfl⟩, h2⟩; exact ⟨h1, h2⟩
  | _ => simp [vU, sG]
def SB {α : Type} (mk mkx : List α → PV) (n : Nat) (l : List α) (ok : Prop) (lo hi mx : Option PV) (K : PV → Prop) : Prop :=
 vU 0 lo fun a => vU l.length hi fun b => aH (a ≤ b ∧ b ≤ l.length) (aH ok (match mx with
  | none => K (mk ((l.take b).drop a))
  | some m => vU 0 (some m) fun c => aH (b = c ∧ hi.isSome = true) (K (mkx ((l.take b).drop a)))))
def eO (ti : TI) (rows : Rows) (x : PV) (lo hi mx : Option PV) (K : PV → Prop) : Prop :=
 match ti with
 | .slice _ n _ _ =>
  match x with
  | .nil => vU 0 lo fun a => vU 0 hi fun b => aH (a = 0 ∧ b = 0 ∧ mx.isNone = true) (K .nil)
  | .sl l => SB .sl .iS n l (bC n l) lo hi mx K
  | .iS l => SB .sl .iS n l (bC n l) lo hi mx K
  | .own id ver off len => bL (rows id) ver fun r => aH (r.size = n) (vU 0 lo fun a => vU len hi fun b => aH (a ≤ b ∧ b ≤ len ∧ mx.isNone = true) (K (.own id ver (off + a) (b - a))))
  | _ => False
 | _ => False
@[congr] theorem abf {t t' : TI} {rows : Rows} {x x' : PV} {lo KH hi gT mx mx' : Option PV} {K : PV → Prop} (h : t = t') (h2 : x = x') (h3 : lo = KH) (h4 : hi = gT) (h5 : mx = mx') : eO t rows x lo hi mx K = eO t' rows x' KH gT mx' K := by rw [h, h2, h3, h4, h5]
section
variable {α : Type} {g : α → List PV} {l : List α} {e n b : Nat} {z : List PV} {rows : Rows} {lo hi mx : Option PV} {K : PV → Prop} {els : List (List PV)} {id ver off len : Nat}
theorem HE {a b : Nat} : ((emap g l).take b).drop a = emap g ((l.take b).drop a) := by simp [emap]
@[simp] theorem aeI : eO (.slice e n b z) rows (aJ g l) lo hi none K = vU 0 lo fun a => vU l.length hi fun b => aH (a ≤ b ∧ b ≤ l.length) (aH (bC n (emap g l)) (K (aJ g ((l.take b).drop a)))) := by
 simp only [eO, aJ, SB, HE]
 simp [emap]
theorem D6 {m : PV} : eO (.slice e n b z) rows (aJ g l) lo hi (some m) K = vU 0 lo fun a => vU l.length hi fun b => aH (a ≤ b ∧ b ≤ l.length) (aH (bC n (emap g l)) (vU 0 (some m) fun c => aH (b = c ∧ hi.isSome = true) (K (.iS (emap g ((l.take b).drop a)))))) := by
 simp only [eO, aJ, SB, HE]
 simp [emap]
@[simp] theorem aeJ : eO (.slice e n b z) rows .nil lo hi mx K = vU 0 lo fun a => vU 0 hi fun b => aH (a = 0 ∧ b = 0 ∧ mx.isNone = true) (K .nil) := rfl
@[simp] theorem aeK : eO (.slice e n b z) rows (.own id ver off len) lo hi mx K = bL (rows id) ver fun r => aH (r.size = n) (vU 0 lo fun a => vU len hi fun b => aH (a ≤ b ∧ b ≤ len ∧ mx.isNone = true) (K (.own id ver (off + a) (b - a)))) := rfl
end
theorem OT {l : List (List PV)} {n : Nat} {lo hi mx : Option PV} {K : PV → Prop} : (∃ v, (∃ a b, sG 0 lo a ∧ sG l.length hi b ∧ a ≤ b ∧ b ≤ l.length ∧ (∀ e ∈ l, e.length = n) ∧ KM l a b hi mx v) ∧ K v) ↔ SB .sl .iS n l (bC n l) lo hi mx K := by
 simp only [SB, L0, aH, bC, KM]
 constructor
 ·rintro ⟨v, ⟨a, b, h1, h2, h3, h4, h5, h6⟩, h7⟩
  refine ⟨a, h1, b, h2, ⟨h3, h4⟩, h5, ?_⟩
  cases mx with
  | none => simp only at h6 ⊢; rw [← h6]; exact h7
  | some m => obtain ⟨c, q1, q2, q3, rfl⟩ := h6; exact ⟨c, q1, ⟨q2, q3⟩, h7⟩
 ·rintro ⟨a, h1, b, h2, ⟨h3, h4⟩, h5, h6⟩
  cases mx with
  | none => exact ⟨_, ⟨a, b, h1, h2, h3, h4, h5, rfl⟩, h6⟩
  | some m => obtain ⟨c, q1, ⟨q2, q3⟩, h7⟩ := h6; exact ⟨_, ⟨a, b, h1, h2, h3, h4, h5, c, q1, q2, q3, rfl⟩, h7⟩
theorem vV {E : Env} {t : TypeId} {rows : Rows} {x : PV} {lo hi mx : Option PV} {K : PV → Prop} : aU (fun v => mC E t rows x lo hi mx v) K = eO (E.ty t) rows x lo hi mx K := by
 simp only [mC, eO]
 cases E.ty t with
 | slice e n b z =>
  cases x with
  | sl l => exact propext OT
  | iS l => exact propext OT
  | nil =>
   simp only [L0, aH]
   apply propext; simp only [aU]
   constructor
   ·rintro ⟨v, ⟨a, b, h1, h2, h3, h4, h5, rfl⟩, h6⟩; exact ⟨a, h1, b, h2, ⟨h3, h4, h5⟩, h6⟩
   ·rintro ⟨a, h1, b, h2, ⟨h3, h4, h5⟩, h6⟩; exact ⟨_, ⟨a, b, h1, h2, h3, h4, h5, rfl⟩, h6⟩
  | own id ver off len =>
   simp only [L0, aH, bL]
   apply propext; simp only [aU]
   constructor
   ·rintro ⟨v, ⟨r, q1, q2, q3, a, b, h1, h2, h3, h4, h5, rfl⟩, h6⟩; exact ⟨r, q1, q2, q3, a, h1, b, h2, ⟨h3, h4, h5⟩, h6⟩
   ·rintro ⟨r, q1, q2, q3, a, h1, b, h2, ⟨h3, h4, h5⟩, h6⟩; exact ⟨_, ⟨r, q1, q2, q3, a, b, h1, h2, h3, h4, h5, rfl⟩, h6⟩
  | _ => simp [aU]
 | _ => simp [aU]
def q9 (rows : Rows) (x : PV) (K : PV → Prop) : Prop :=
 match x with
 | .rd l => K (.rd l)
 | .ptr id ver i j => bL (rows id) ver fun _ => K (.ptr id ver i j)
 | _ => False
@[congr] theorem aeL {rows : Rows} {x x' : PV} {K : PV → Prop} (h : x = x') : q9 rows x K = q9 rows x' K := by rw [h]
@[simp] theorem al4 {rows : Rows} {l : List PV} {K : PV → Prop} : q9 rows (.rd l) K = go (K (.rd l)) := rfl
@[simp] theorem ajS {rows : Rows} {id ver i j : Nat} {K : PV → Prop} : q9 rows (.ptr id ver i j) K = bL (rows id) ver fun _ => K (.ptr id ver i j) := rfl
theorem CA {rows : Rows} {x : PV} {K : PV → Prop} : aU (fun v => A5 rows x v) K = q9 rows x K := by
 simp only [A5, q9]
 cases x with
 | rd l => dsimp only; rw [iW]
 | ptr id ver i j =>
  simp only [bL]
  apply propext; simp only [aU]
  constructor
  ·rintro ⟨v, ⟨⟨r, h1, h2⟩, rfl⟩, h3⟩; exact ⟨r, h1, h2, h3⟩
  ·rintro ⟨r, h1, h2, h3⟩; exact ⟨_, ⟨⟨r, h1, h2⟩, rfl⟩, h3⟩
 | _ => simp [aU]
def kA (ti : TI) (rows : Rows) (x : PV) (K : PV → Prop) : Prop :=
 match ti with
 | .slice _ _ _ _ => match x with
  | .nil => K (.int .i64 0)
  | .sl l => K (.int .i64 l.length)
  | .iS l => K (.int .i64 l.length)
  | .own id ver _ len => bL (rows id) ver fun _ => K (.int .i64 len)
  | _ => False
 | _ => False
@[congr] theorem aeM {t t' : TI} {rows : Rows} {x x' : PV} {K : PV → Prop} (h : t = t') (h2 : x = x') : kA t rows x K = kA t' rows x' K := by rw [h, h2]
section
variable {α : Type} {g : α → List PV} {l : List α} {e n b : Nat} {z : List PV} {rows : Rows} {K : PV → Prop} {els : List (List PV)} {id ver off len : Nat}
@[simp] theorem ajT : kA (.slice e n b z) rows (aJ g l) K = go (K (.int .i64 l.length)) := by show _ = K _; simp [kA, aJ, emap]
@[simp] theorem ajU : kA (.slice e n b z) rows .nil K = go (K (.int .i64 0)) := rfl
@[simp] theorem al5 : kA (.slice e n b z) rows (.sl els) K = go (K (.int .i64 els.length)) := rfl
@[simp] theorem ajV : kA (.slice e n b z) rows (.iS els) K = go (K (.int .i64 els.length)) := rfl
@[simp] theorem ajW : kA (.slice e n b z) rows (.own id ver off len) K = bL (rows id) ver fun _ => K (.int .i64 len) := rfl
end
theorem CB {ti : TI} {rows : Rows} {x : PV} {K : PV → Prop} : aU (fun v => vG ti rows x v) K = kA ti rows x K := by
 simp only [vG, kA]
 cases ti with
 | slice e n b z =>
  apply propext; simp only [aU, RC]
  cases x with
  | own id ver off len =>
   simp only [bL]
   constructor
   ·rintro ⟨v, ⟨n, ⟨⟨r, h1, h2⟩, rfl⟩, rfl⟩, h4⟩; exact ⟨r, h1, h2, h4⟩
   ·rintro ⟨r, h1, h2, h4⟩; exact ⟨_, ⟨_, ⟨⟨r, h1, h2⟩, rfl⟩, rfl⟩, h4⟩
  | _ => simp
 | _ => simp [aU]
def iI (els : List (List PV)) (i j : Nat) (l : List PV) : List (List PV) := els.set i (((els[i]?).getD []).take j ++ l ++ ((els[i]?).getD []).drop (j + l.length))
def sU (els : List (List PV)) (i n : Nat) : Prop := ∃ el, els[i]? = some el ∧ n ≤ el.length
def fP (rows : Rows) (l : List PV) : Prop := ∀ q ∈ l, gN rows q
@[simp] theorem ag4 {rows : Rows} : fP rows [] = True := by simp [fP]
@[simp] theorem aeN {rows : Rows} {p : PV} {l : List PV} : fP rows (p :: l) = (gN rows p ∧ fP rows l) := by simp [fP]
@[simp] theorem ag5 {α : Type} [Inhabited α] {g : α → List PV} {l : List α} {i n : Nat} : sU (emap g l) i n = (i < l.length ∧ n ≤ (g (nth l i)).length) := by
 exact HC (g := g) (l := l) (i := i) (K := fun el => n ≤ el.length)
def iY (E : Env) (t : TypeId) (rows : Rows) (p x : PV) (K : Nat → Row → Prop) : Prop :=
 aH ((E.ty t).known = true) (match p with
 | .ptr id ver i j => bL (rows id) ver fun r => eM (bP x) fun l => aH (sU r.els i (j + l.length) ∧ fP rows l ∧ l.length = (E.ty t).size) (K id ⟨ver, r.e, r.size, iI r.els i j l⟩)
 | _ => False)
@[congr] theorem abg {E : Env} {t : TypeId} {rows : Rows} {p p' x x' : PV} {K : Nat → Row → Prop} (h1 : p = p') (h2 : x = x') : iY E t rows p x K = iY E t rows p' x' K := by rw [h1, h2]
@[simp] theorem aeO {E : Env} {t : TypeId} {rows : Rows} {id ver i j : Nat} {x : PV} {K : Nat → Row → Prop} : iY E t rows (.ptr id ver i j) x K = aH ((E.ty t).known = true) (bL (rows id) ver fun r => eM (bP x) fun l => aH (sU r.els i (j + l.length) ∧ fP rows l ∧ l.length = (E.ty t).size) (K id ⟨ver, r.e, r.size, iI r.els i j l⟩)) := rfl
theorem CC {E : Env} {t : TypeId} {rows : Rows} {p x : PV} {K : Nat → Row → Prop} : (∃ id r, oO E t rows p x .undef (some (id, r)) ∧ K id r) = iY E t rows p x K := by
 simp only [oO, iY, aH, bL, eM, sU, fP]
 apply propext
 constructor
 ·rintro ⟨id, r, ⟨h1, _, h2⟩, h3⟩
  refine ⟨h1, ?_⟩
  split at h2
  ·obtain ⟨r0, q1, q2, el, q3, l, q4, q5, q6, q7, q8⟩ := h2
   simp only [Option.some.injEq, Prod.mk.injEq] at q8
   obtain ⟨rfl, rfl⟩ := q8
   refine ⟨r0, q1, q2, l, q4, ⟨⟨el, q3, q7⟩, q5, q6⟩, ?_⟩
   simp only [iI, q3, Option.getD_some]
   rw [q2] at h3
   exact h3
  ·exact h2.elim
 ·rintro ⟨h1, h2⟩
  split at h2
  ·obtain ⟨r0, q1, q2, l, q4, ⟨⟨el, q3, q7⟩, q5, q6⟩, h3⟩ := h2
   simp only [iI, q3, Option.getD_some] at h3
   refine ⟨_, _, ⟨h1, trivial, r0, q1, q2, el, q3, l, q4, q5, q6, q7, rfl⟩, ?_⟩
   rw [← q2] at h3
   exact h3
  ·exact h2.elim
def jD (rows : Rows) (y : PV) (K : List (List PV) → Prop) : Prop :=
 match y with
 | .nil => K []
 | .sl k => K k
 | .iS k => K k
 | .own id ver off len => bL (rows id) ver fun r => K ((r.els.drop off).take len)
 | _ => False
@[congr] theorem aeP {rows : Rows} {y y' : PV} {K : List (List PV) → Prop} (h : y = y') : jD rows y K = jD rows y' K := by rw [h]
@[simp] theorem ajX {rows : Rows} {K : List (List PV) → Prop} : jD rows .nil K = go (K []) := rfl
@[simp] theorem al6 {rows : Rows} {l : List (List PV)} {K : List (List PV) → Prop} : jD rows (.sl l) K = go (K l) := rfl
@[simp] theorem ajY {α : Type} {g : α → List PV} {rows : Rows} {l : List α} {K : List (List PV) → Prop} : jD rows (aJ g l) K = go (K (emap g l)) := rfl
@[simp] theorem ajZ {rows : Rows} {l : List (List PV)} {K : List (List PV) → Prop} : jD rows (.iS l) K = go (K l) := rfl
@[simp] theorem aj0 {rows : Rows} {id ver off len : Nat} {K : List (List PV) → Prop} : jD rows (.own id ver off len) K = bL (rows id) ver fun r => K ((r.els.drop off).take len) := rfl
theorem OU {rows : Rows} {y : PV} {K : List (List PV) → Prop} : (∃ l, sN rows y l ∧ K l) = jD rows y K := by
 simp only [sN, jD]
 apply propext
 cases y with
 | own id ver off len =>
  simp only [bL]
  constructor
  ·rintro ⟨l, ⟨r, h1, h2, rfl⟩, h3⟩; exact ⟨r, h1, h2, h3⟩
  ·rintro ⟨r, h1, h2, h3⟩; exact ⟨_, ⟨r, h1, h2, rfl⟩, h3⟩
 | _ => simp
def oW (t : TI) (rows : Rows) (x y : PV) (clk d : Nat) (K : PV → Rows → Nat → Prop) : Prop :=
 match t with
 | .slice e n b _ => jD rows y fun l => aH (bC n l) (match x with
  | .nil => aH (l.length ≤ room ∧ l.length * b ≤ room) (K (.own d clk 0 l.length) (dE rows d (some ⟨clk, e, n, l⟩)) (clk + 1))
  | .own id ver off len => bL (rows id) ver fun r => aH (off = 0 ∧ len = r.els.length ∧ r.e = e ∧ r.size = n) (aH (len + l.length ≤ room ∧ (len + l.length) * b ≤ room) (K (.own id clk 0 (len + l.length)) (dE rows id (some ⟨clk, e, n, r.els ++ l⟩)) (clk + 1)))
  | .iS l0 => aH (bC n l0 ∧ ∀ e ∈ l, ∀ p ∈ e, b5 p = true) (aH (l0.length + l.length ≤ room ∧ (l0.length + l.length) * b ≤ room) (K (.sl (l0 ++ l)) rows clk))
  | _ => False)
 | _ => False
@[congr] theorem aeQ {t t' : TI} {rows : Rows} {x x' y y' : PV} {clk d : Nat} {K : PV → Rows → Nat → Prop} (h1 : t = t') (h3 : x = x') (h4 : y = y') :
  oW t rows x y clk d K = oW t' rows x' y' clk d K := by rw [h1, h3, h4]
section
variable {e n b clk d id ver off len : Nat} {z : List PV} {rows : Rows} {y : PV} {K : PV → Rows → Nat → Prop} {l0 : List (List PV)}
@[simp] theorem aj1 : oW (.slice e n b z) rows .nil y clk d K = jD rows y fun l => aH (bC n l) (aH (l.length ≤ room ∧ l.length * b ≤ room) (K (.own d clk 0 l.length) (dE rows d (some ⟨clk, e, n, l⟩)) (clk + 1))) := rfl
@[simp] theorem aj2 : oW (.slice e n b z) rows (.own id ver off len) y clk d K = jD rows y fun l => aH (bC n l) (bL (rows id) ver fun r => aH (off = 0 ∧ len = r.els.length ∧ r.e = e ∧ r.size = n) (aH (len + l.length ≤ room ∧ (len + l.length) * b ≤ room) (K (.own id clk 0 (len + l.length)) (dE rows id (some ⟨clk, e, n, r.els ++ l⟩)) (clk + 1)))) := rfl
@[simp] theorem aj3 : oW (.slice e n b z) rows (.iS l0) y clk d K = jD rows y fun l => aH (bC n l) (aH (bC n l0 ∧ ∀ e ∈ l, ∀ p ∈ e, b5 p = true) (aH (l0.length + l.length ≤ room ∧ (l0.length + l.length) * b ≤ room) (K (.sl (l0 ++ l)) rows clk))) := rfl
end
theorem ab5 {t : TI} {rows : Rows} {x y : PV} {clk d : Nat} {K : PV → Rows → Nat → Prop} : R4 t rows x y clk d K = oW t rows x y clk d K := by
 unfold R4 oW
 cases t with
 | slice e n b z =>
  dsimp only
  rw [← OU]
  congr 1; funext l; congr 1
  simp only [aH, bC]
  congr 1
  cases x with
  | own id ver off len => simp only [bL, and_assoc]
  | iS l0 => simp only [bC, and_assoc]
  | _ => rfl
 | _ => rfl
def fzR (o : Option Row) (ver off len : Nat) : PV :=
 match o with
 | some r => if r.ver = ver then .sl ((r.els.drop off).take len) else .undef
 | none => .undef
@[simp] theorem arE {rows : Rows} {id ver off len : Nat} : fz rows (.own id ver off len) = fzR (rows id) ver off len := rfl
@[simp] theorem al7 {α : Type} {g : α → List PV} {l : List α} {ver e n off len : Nat} : fzR (some ⟨ver, e, n, emap g l⟩) ver off len = aJ g ((l.drop off).take len) := by simp [fzR, aJ, emap]
@[simp] theorem arF {rows : Rows} : fz rows .nil = .sl [] := rfl
@[simp] theorem arG {rows : Rows} {l : List (List PV)} : fz rows (.iS l) = .sl l := rfl
@[simp] theorem auE {rows : Rows} {l : List (List PV)} : fz rows (.sl l) = .sl l := rfl
@[simp] theorem arH {α : Type} {g : α → List PV} {rows : Rows} {l : List α} : fz rows (aJ g l) = aJ g l := rfl
@[simp] theorem arI {rows : Rows} {k : IntKind} {n : Int} : fz rows (.int k n) = .int k n := rfl
@[simp] theorem apA {rows : Rows} {b : Bool} : fz rows (.bool b) = .bool b := rfl
@[simp] theorem auF {rows : Rows} {f : FuncId} {l : List PV} : fz rows (.fn f l) = .fn f l := rfl
@[simp] theorem arJ {rows : Rows} {id ver off len : Nat} : pz rows (.own id ver off len) = fzR (rows id) ver off len := rfl
@[simp] theorem arK {rows : Rows} : pz rows .nil = .sl [] := rfl
@[simp] theorem arL {rows : Rows} {l : List (List PV)} : pz rows (.iS l) = .sl l := rfl
@[simp] theorem auG {rows : Rows} {l : List (List PV)} : pz rows (.sl l) = .sl l := rfl
@[simp] theorem arM {α : Type} {g : α → List PV} {rows : Rows} {l : List α} : pz rows (aJ g l) = aJ g l := rfl
@[simp] theorem arN {rows : Rows} {k : IntKind} {n : Int} : pz rows (.int k n) = .int k n := rfl
@[simp] theorem apB {rows : Rows} {b : Bool} : pz rows (.bool b) = .bool b := rfl
@[simp] theorem auH {rows : Rows} {f : FuncId} {l : List PV} : pz rows (.fn f l) = .fn f l := rfl
@[simp] theorem auI {rows : Rows} {l : List PV} : pz rows (.ag l) = .ag (l.map (fz rows)) := rfl
@[simp] theorem al8 {α : Type} {g : α → List PV} {l : List α} : eV (aJ g l) = true := rfl
@[simp] theorem aj5 {α : Type} {g : α → List PV} {l : List α} : b5 (aJ g l) = true := rfl
@[simp] theorem apC {α : Type} {g : α → List PV} {l : List α} : aZ (aJ g l) = [] := rfl
@[simp] theorem al9 {α : Type} {g : α → List PV} {l : List α} : dC (aJ g l) = [] := rfl
@[simp] theorem apD {l : List (List PV)} : dC (.sl l) = [] := rfl
@[simp] theorem ama {l : List (List PV)} : dC (.iS l) = [] := rfl
@[simp] theorem amb {k : IntKind} {n : Int} : dC (.int k n) = [] := rfl
@[simp] theorem aj6 {b : Bool} : dC (.bool b) = [] := rfl
@[simp] theorem apE {f : FuncId} {l : List PV} : dC (.fn f l) = [] := rfl
@[simp] theorem amc : dC .nil = [] := rfl
@[simp] theorem amd {id ver off len : Nat} : dC (.own id ver off len) = [id] := rfl
@[simp] theorem apF {l : List PV} : dC (.ag l) = l.flatMap aZ := rfl
@[simp] theorem ame {α : Type} {g : α → List PV} {rows : Rows} {l : List α} : gN rows (aJ g l) = True := rfl
@[simp] theorem ag6 {α : Type} {g : α → List PV} {l : List α} : bP (aJ g l) = some [aJ g l] := rfl
@[simp] theorem ag7 {α : Type} {g : α → List PV} {l : List α} : eA (aJ g l) = some [aJ g l] := rfl
def cO (o : Option Row) : Prop := ∀ r, o = some r → ∀ e ∈ r.els, ∀ p ∈ e, b5 p = true
@[simp] theorem ab6 {rows : Rows} : dM rows [] = True := by simp [dM]
@[simp] theorem abh {rows : Rows} {id : Nat} {ids : List Nat} : dM rows (id :: ids) = (cO (rows id) ∧ dM rows ids) := by simp [dM, cO]
@[simp] theorem ab7 : cO none = True := by simp [cO]
@[simp] theorem cH {α : Type} {g : α → List PV} {l : List α} {ver e n : Nat} (h : alX g) : cO (some ⟨ver, e, n, emap g l⟩) = True := by
 simp only [cO, emap, Option.some.injEq, eq_iff_iff, iff_true]
 rintro r rfl e he p hp
 simp at he
 obtain ⟨x, _, rfl⟩ := he
 exact List.all_eq_true.1 (h x) p hp
@[simp] theorem apG {rows : Rows} : B3 rows [] = rows := by funext j; simp [B3]
@[simp] theorem arO {rows : Rows} {ids : List Nat} {j : Nat} : B3 rows ids j = if j ∈ ids then none else rows j := rfl
def kP (fs : List (Nat × Nat × Bool)) : List (Nat × PV) → List PV → (List PV → Prop) → Prop
 | [], z, K => K z
 | (i, p) :: ps, z, K => eM (j8 fs i) fun q => eM (eA p) fun l => aH (l.length = q.2.1 ∧ q.1 + q.2.1 ≤ z.length) (kP fs ps (z.take q.1 ++ l ++ z.drop (q.1 + q.2.1)) K)
@[congr] theorem aeR {fs : List (Nat × Nat × Bool)} {ps OV : List (Nat × PV)} {z z' : List PV} {K : List PV → Prop} (h : ps = OV) (h2 : z = z') : kP fs ps z K = kP fs OV z' K := by rw [h, h2]
@[simp] theorem aj7 {fs : List (Nat × Nat × Bool)} {z : List PV} {K : List PV → Prop} : kP fs [] z K = go (K z) := rfl
@[simp] theorem ag8 {fs : List (Nat × Nat × Bool)} {i : Nat} {p : PV} {ps : List (Nat × PV)} {z : List PV} {K : List PV → Prop} : kP fs ((i, p) :: ps) z K = eM (j8 fs i) fun q => eM (eA p) fun l => aH (l.length = q.2.1 ∧ q.1 + q.2.1 ≤ z.length) (kP fs ps (z.take q.1 ++ l ++ z.drop (q.1 + q.2.1)) K) := rfl
theorem yX {fs : List (Nat × Nat × Bool)} : ∀ {ps : List (Nat × PV)} {z : List PV} {K : List PV → Prop}, (∃ l, qS fs ps z = some l ∧ K l) ↔ kP fs ps z K
 | [], z, K => by simp [qS, kP]
 | (i, p) :: ps, z, K => by
  simp only [qS, kP, eM, aH, j8]
  cases h1 : fs[i]? with
  | none => simp
  | some q =>
   obtain ⟨o, n, b⟩ := q
   cases h2 : eA p with
   | none => simp
   | some l =>
    simp only [Option.some.injEq, exists_eq_left']
    rw [← yX]
    split
    ·rename_i h; simp [h]
    ·rename_i h; simp [h]
def jW (ti : TI) (ps : List (Nat × PV)) (K : PV → Prop) : Prop :=
 match ti with
 | .struct fs z => kP fs ps z fun l => K (.ag l)
 | .arr _ k n z => kP (KO k n) ps z fun l => K (.ag l)
 | _ => False
@[congr] theorem abi {t t' : TI} {ps OV : List (Nat × PV)} {K : PV → Prop} (h : t = t') (h2 : ps = OV) : jW t ps K = jW t' OV K := by rw [h, h2]
@[simp] theorem WS {fs : List (Nat × Nat × Bool)} {z : List PV} {ps : List (Nat × PV)} {K : PV → Prop} : jW (.struct fs z) ps K = kP fs ps z fun l => K (.ag l) := rfl
@[simp] theorem aeS {e k n : Nat} {z : List PV} {ps : List (Nat × PV)} {K : PV → Prop} : jW (.arr e k n z) ps K = kP (KO k n) ps z fun l => K (.ag l) := rfl
@[simp] theorem aj8 {k n i : Nat} : j8 (KO k n) i = if i < k then some (i * n, n, false) else none := by
 unfold j8 KO
 rw [List.getElem?_map]
 split
 ·rename_i h; rw [List.getElem?_range h]; rfl
 ·rename_i h; rw [List.getElem?_eq_none (by simpa using h)]; rfl
theorem vW {ti : TI} {ps : List (Nat × PV)} {K : PV → Prop} : aU (fun v => oK ti ps v) K = jW ti ps K := by
 simp only [oK, jW]
 cases ti with
 | struct fs z =>
  apply propext; simp only [aU]
  rw [← yX]
  constructor
  ·rintro ⟨v, ⟨l, h1, rfl⟩, h2⟩; exact ⟨l, h1, h2⟩
  ·rintro ⟨l, h1, h2⟩; exact ⟨_, ⟨l, h1, rfl⟩, h2⟩
 | arr e k n z =>
  apply propext; simp only [aU]
  rw [← yX]
  constructor
  ·rintro ⟨v, ⟨l, h1, rfl⟩, h2⟩; exact ⟨l, h1, h2⟩
  ·rintro ⟨l, h1, h2⟩; exact ⟨_, ⟨l, h1, rfl⟩, h2⟩
 | _ => simp [aU]
def gZ (n : Nat) : Nat → List (Nat × PV) → (List (List PV) → Prop) → Prop
 | _, [], K => K []
 | k, (i, p) :: ps, K => eM (bP p) fun l => aH (i = k ∧ l.length = n) (gZ n (k + 1) ps fun els => K (l :: els))
@[congr] theorem ab8 {n k : Nat} {ps OV : List (Nat × PV)} {K : List (List PV) → Prop} (h : ps = OV) : gZ n k ps K = gZ n k OV K := by rw [h]
@[simp] theorem ag9 {n k : Nat} {K : List (List PV) → Prop} : gZ n k [] K = go (K []) := rfl
@[simp] theorem aeT {n k i : Nat} {p : PV} {ps : List (Nat × PV)} {K : List (List PV) → Prop} : gZ n k ((i, p) :: ps) K = eM (bP p) fun l => aH (i = k ∧ l.length = n) (gZ n (k + 1) ps fun els => K (l :: els)) := rfl
theorem uR {n : Nat} : ∀ {ps : List (Nat × PV)} {k : Nat} {K : List (List PV) → Prop}, (∃ l, fN n k ps = some l ∧ K l) ↔ gZ n k ps K
 | [], k, K => by simp [fN, gZ]
 | (i, p) :: ps, k, K => by
  simp only [fN, gZ, eM, aH]
  cases h2 : bP p with
  | none => simp
  | some l =>
   simp only [Option.some.injEq, exists_eq_left']
   rw [← uR]
   by_cases h : i = k ∧ l.length = n
   ·rw [if_pos h]
    constructor
    ·rintro ⟨e, h1, h3⟩
     obtain ⟨e', h4, rfl⟩ := Option.map_eq_some_iff.1 h1
     exact ⟨h, e', h4, h3⟩
    ·rintro ⟨_, e', h4, h3⟩
     exact ⟨_, by rw [h4]; rfl, h3⟩
   ·rw [if_neg h]; simp [h]
def yY (rows : Rows) (els : List (List PV)) : Prop := (∀ e ∈ els, ∀ p ∈ e, b5 (fz rows p) = true ∧ gN rows p) ∧ (∀ e ∈ els, ∀ p ∈ e, aZ p = [])
@[simp] theorem aj9 {rows : Rows} : yY rows [] = True := by simp [yY]
@[simp] theorem aha {rows : Rows} {e : List PV} {els : List (List PV)} : yY rows (e :: els) = ((∀ p ∈ e, b5 (fz rows p) = true ∧ gN rows p ∧ aZ p = []) ∧ yY rows els) := by
 simp only [yY, List.mem_cons, forall_eq_or_imp, eq_iff_iff]
 constructor
 ·rintro ⟨⟨h1, h2⟩, h3, h4⟩; exact ⟨fun p hp => ⟨(h1 p hp).1, (h1 p hp).2, h3 p hp⟩, h2, h4⟩
 ·rintro ⟨h1, h2, h4⟩; exact ⟨⟨fun p hp => ⟨(h1 p hp).1, (h1 p hp).2.1⟩, h2⟩, fun p hp => (h1 p hp).2.2, h4⟩
def sV (ti : TI) (rows : Rows) (len : Nat) (ps : List (Nat × PV)) (K : PV → Prop) : Prop :=
 match ti with
 | .slice _ n _ _ => gZ n 0 ps fun els => aH (len = els.length ∧ len ≤ 4096 ∧ n ≤ 4096 ∧ yY rows els) (K (.iS (els.map fun e => e.map (fz rows))))
 | _ => False
@[congr] theorem aeU {t t' : TI} {rows : Rows} {len : Nat} {ps OV : List (Nat × PV)} {K : PV → Prop} (h : t = t') (h2 : ps = OV) : sV t rows len ps K = sV t' rows len OV K := by rw [h, h2]
@[simp] theorem aeV {e n b : Nat} {z : List PV} {rows : Rows} {len : Nat} {ps : List (Nat × PV)} {K : PV → Prop} : sV (.slice e n b z) rows len ps K = gZ n 0 ps fun els => aH (len = els.length ∧ len ≤ 4096 ∧ n ≤ 4096 ∧ yY rows els) (K (.iS (els.map fun e => e.map (fz rows)))) := rfl
theorem CD {ti : TI} {rows : Rows} {len : Nat} {ps : List (Nat × PV)} {K : PV → Prop} : aU (fun v => K4 ti rows len ps v) K = sV ti rows len ps K := by
 simp only [K4, sV]
 cases ti with
 | slice e n b z =>
  apply propext; simp only [aU]
  rw [← uR]
  constructor
  ·rintro ⟨v, ⟨l, h1, h2, h3, h4, h5, h6, rfl⟩, h7⟩; exact ⟨l, h1, ⟨h2, h3, h4, h5, h6⟩, h7⟩
  ·rintro ⟨l, h1, ⟨h2, h3, h4, h5, h6⟩, h7⟩; exact ⟨_, ⟨l, h1, h2, h3, h4, h5, h6, rfl⟩, h7⟩
 | _ => simp [aU]
def sW (i : Nat) (x : PV) (K : PV → Prop) : Prop :=
 match x with
 | .eN l => eM (j8 l i) K
 | _ => False
@[congr] theorem aeW {i : Nat} {x x' : PV} {K : PV → Prop} (h : x = x') : sW i x K = sW i x' K := by rw [h]
@[simp] theorem aka {i : Nat} {l : List PV} {K : PV → Prop} : sW i (.eN l) K = eM (j8 l i) K := rfl
theorem CE {i : Nat} {x : PV} {K : PV → Prop} : aU (fun v => KN i x v) K = sW i x K := by
 simp only [KN, sW]
 cases x <;> first | rfl | simp [aU]
def BF : List Oper → Nat → Option Tmp
 | [], _ => none
 | o :: _, 0 => o.dst
 | _ :: os, n + 1 => BF os n
theorem D7 : ∀ (ops : List Oper) (j : Nat), BF ops j = (ops[j]?).bind (·.dst)
 | [], j => by simp [BF]
 | o :: os, 0 => by simp [BF]
 | o :: os, n + 1 => by simp [BF, D7 os n]
@[simp] theorem akb {d : Option Tmp} {op : Op} {ty : TypeId} {pos : String} {af : Array Edge} {g : Option (Nat × Bool)} {os : List Oper} : BF (⟨d, op, ty, pos, af, g⟩ :: os) 0 = d := rfl
@[simp] theorem akc {o : Oper} {os : List Oper} {n : Nat} : BF (o :: os) (n + 1) = BF os n := rfl
def nG (o : Option Tmp) (f : Nat → PV) (w : Bool) (A B : Prop) : Prop :=
 match o with
 | none => False
 | some e => stepG (f e) w A B
@[congr] theorem ab9 {o o' : Option Tmp} {f : Nat → PV} {w : Bool} {A B : Prop} (h : o = o') : nG o f w A B = nG o' f w A B := by rw [h]
@[simp] theorem aeX {e : Tmp} {f : Nat → PV} {w : Bool} {A B : Prop} : nG (some e) f w A B = stepG (f e) w A B := rfl
@[simp] theorem akd {o : Option Tmp} {f : Nat → PV} {w : Bool} {A B : Prop} : go (nG o f w A B) = nG o f w A B := rfl
section
variable {E : Env} {ops os : List Oper} {K : PS → Prop} {f : Nat → PV} {rows : Rows} {clk : Nat} {d : Option Tmp} {ty : TypeId} {pos : String} {af : Array Edge} {k : Nat} {bM : Nat → Nat → Prop} {aO : Nat → Nat → Prop}
theorem HF {op : Op} {j : Nat} {want : Bool} : aK E ops (⟨d, op, ty, pos, af, some (j, want)⟩ :: os) K ⟨f, rows, clk⟩ = nG ((ops[j]?).bind (·.dst)) f want (aK E ops (⟨d, op, ty, pos, af, none⟩ :: os) K ⟨f, rows, clk⟩) (aK E ops os K ⟨put f d (.eN []), rows, clk⟩) := LK
theorem HG {op : Op} {j : Nat} {want : Bool} : aN E ops clk k (⟨d, op, ty, pos, af, some (j, want)⟩ :: os) K ⟨f, rows, bM, aO⟩ = nG ((ops[j]?).bind (·.dst)) f want (aN E ops clk k (⟨d, op, ty, pos, af, none⟩ :: os) K ⟨f, rows, bM, aO⟩) (aN E ops clk (k + 1) os K ⟨put f d (.eN []), rows, bM, aO⟩) := LS
end
section
variable {E : Env} {ops os : List Oper} {K : PS → Prop} {f : Nat → PV} {rows : Rows} {clk : Nat} {d : Option Tmp} {ty : TypeId} {pos : String} {af : Array Edge} {k : Nat} {bM : Nat → Nat → Prop} {aO : Nat → Nat → Prop}
theorem L2 {t : TypeId} {x : Operand} : aK E ops (⟨d, .load t x, ty, pos, af, none⟩ :: os) K ⟨f, rows, clk⟩ = jN E t rows (aQ f x) fun v => aK E ops os K ⟨put f d v, rows, clk⟩ := by rw [R3, rP]
theorem HH {t : TypeId} {i : Nat} {x : Operand} : aK E ops (⟨d, .field t x i, ty, pos, af, none⟩ :: os) K ⟨f, rows, clk⟩ = iX (E.ty t) i (aQ f x) fun v => aK E ops os K ⟨put f d v, rows, clk⟩ := by rw [LM, vT]
theorem w5 {t : TypeId} {i : Nat} {x : Operand} : aK E ops (⟨d, .fieldAddr t x i, ty, pos, af, none⟩ :: os) K ⟨f, rows, clk⟩ = c8 (E.ty t) rows i (aQ f x) fun v => aK E ops os K ⟨put f d v, rows, clk⟩ := by rw [yR, n3]
theorem w6 {t : TypeId} {x y : Operand} : aK E ops (⟨d, .indexAddr t x y, ty, pos, af, none⟩ :: os) K ⟨f, rows, clk⟩ = bT (E.ty t) rows (aQ f x) (aQ f y) fun v => aK E ops os K ⟨put f d v, rows, clk⟩ := by rw [yS, n4]
theorem HI {t : TypeId} {x : Operand} {lo hi mx : Option Operand} : aK E ops (⟨d, .slice t x lo hi mx, ty, pos, af, none⟩ :: os) K ⟨f, rows, clk⟩ = eO (E.ty t) rows (aQ f x) (lo.map (aQ f)) (hi.map (aQ f)) (mx.map (aQ f)) fun v => aK E ops os K ⟨put f d v, rows, clk⟩ := by rw [LN, vV]
theorem SC {t : TypeId} {x : Operand} : aK E ops (⟨d, .call { callee := .builtin .len, args := ⟨[x]⟩, argTypes := ⟨[t]⟩ }, ty, pos, af, none⟩ :: os) K ⟨f, rows, clk⟩ = kA (E.ty t) rows (aQ f x) fun v => aK E ops os K ⟨put f d v, rows, clk⟩ := by rw [WE, CB]
theorem HJ {t : TypeId} {p x : Operand} : aK E ops (⟨none, .store t p x, ty, pos, af, none⟩ :: os) K ⟨f, rows, clk⟩ = iY E t rows (aQ f p) (aQ f x) fun id r => aK E ops os K ⟨f, dE rows id (some r), clk⟩ := by rw [LQ, CC]
theorem D8 {t t2 : TypeId} {x y : Operand} : aK E ops (⟨d, .call { callee := .builtin .append, args := ⟨[x, y]⟩, argTypes := ⟨[t, t2]⟩ }, ty, pos, af, none⟩ :: os) K ⟨f, rows, clk⟩ =
  aH (t2 = t ∨ VD (E.ty t2) = true) (oW (E.ty t) rows (aQ f x) (aQ f y) clk (d.getD 0) fun v rows clk => aK E ops os K ⟨put f d v, rows, clk⟩) := by rw [G5, ab5]
theorem L3 {t : TypeId} {x : Operand} : aN E ops clk k (⟨d, .load t x, ty, pos, af, none⟩ :: os) K ⟨f, rows, bM, aO⟩ = jN E t (dN .any ops k aO rows) (aQ f x) fun v => aN E ops clk (k + 1) os K ⟨put f d v, rows, j0 k (aZ (aQ f x)) bM, aO⟩ := by rw [R9, rP]
theorem HK {t : TypeId} {i : Nat} {x : Operand} : aN E ops clk k (⟨d, .field t x i, ty, pos, af, none⟩ :: os) K ⟨f, rows, bM, aO⟩ = iX (E.ty t) i (aQ f x) fun v => aN E ops clk (k + 1) os K ⟨put f d v, rows, bM, aO⟩ := by rw [LU, vT]
theorem w7 {t : TypeId} {i : Nat} {x : Operand} : aN E ops clk k (⟨d, .fieldAddr t x i, ty, pos, af, none⟩ :: os) K ⟨f, rows, bM, aO⟩ = c8 (E.ty t) (dN .any ops k aO rows) i (aQ f x) fun v => aN E ops clk (k + 1) os K ⟨put f d v, rows, j0 k (aZ (aQ f x)) bM, aO⟩ := by rw [yU, n3]
theorem w8 {t : TypeId} {x y : Operand} : aN E ops clk k (⟨d, .indexAddr t x y, ty, pos, af, none⟩ :: os) K ⟨f, rows, bM, aO⟩ = bT (E.ty t) (dN .any ops k aO rows) (aQ f x) (aQ f y) fun v => aN E ops clk (k + 1) os K ⟨put f d v, rows, j0 k (aZ (aQ f x)) bM, aO⟩ := by rw [yV, n4]
theorem HL {t : TypeId} {x : Operand} {lo hi mx : Option Operand} : aN E ops clk k (⟨d, .slice t x lo hi mx, ty, pos, af, none⟩ :: os) K ⟨f, rows, bM, aO⟩ = eO (E.ty t) (dN .any ops k aO rows) (aQ f x) (lo.map (aQ f)) (hi.map (aQ f)) (mx.map (aQ f)) fun v => aN E ops clk (k + 1) os K ⟨put f d v, rows, j0 k (aZ (aQ f x)) bM, aO⟩ := by rw [LV, vV]
theorem SD {t : TypeId} {x : Operand} : aN E ops clk k (⟨d, .call { callee := .builtin .len, args := ⟨[x]⟩, argTypes := ⟨[t]⟩ }, ty, pos, af, none⟩ :: os) K ⟨f, rows, bM, aO⟩ = kA (E.ty t) (dN .any ops k aO rows) (aQ f x) fun v => aN E ops clk (k + 1) os K ⟨put f d v, rows, j0 k (aZ (aQ f x)) bM, aO⟩ := by rw [WK, CB]
theorem HM {t : TypeId} {p x : Operand} : aN E ops clk k (⟨none, .store t p x, ty, pos, af, none⟩ :: os) K ⟨f, rows, bM, aO⟩ =
  iY E t (dN .any ops k aO rows) (aQ f p) (aQ f x) fun id r => aH (yK .any ops k id bM) (aN E ops clk (k + 1) os K ⟨f, dE rows id (some r), j0 k (aZ (aQ f p) ++ ((bP (aQ f x)).getD []).flatMap aZ) bM, nD k id aO⟩) := by rw [LX, ← CC]; rfl
theorem OW {x : Operand} : go (aK E ops (⟨d, .move x, ty, pos, af, none⟩ :: os) K ⟨f, rows, clk⟩) = go (aK E ops os K ⟨put f d (aQ f x), rows, clk⟩) := RX
theorem CF {x : Operand} : go (aK E ops (⟨d, .assign x, ty, pos, af, none⟩ :: os) K ⟨f, rows, clk⟩) = go (aK E ops os K ⟨put f d (aQ f x), rows, clk⟩) := G4
theorem aca {c a b : Operand} : go (aK E ops (⟨d, .pick c a b, ty, pos, af, none⟩ :: os) K ⟨f, rows, clk⟩) = gF (aQ f c) true (aK E ops os K ⟨put f d (aQ f a), rows, clk⟩) (aK E ops os K ⟨put f d (aQ f b), rows, clk⟩) := RY
theorem WT {op : BinOp} {t t2 : TypeId} {x y : Operand} : go (aK E ops (⟨d, .binOp op t x y t2, ty, pos, af, none⟩ :: os) K ⟨f, rows, clk⟩) = aU (fun v => DL E op t (aQ f x) (aQ f y) v) fun v => aK E ops os K ⟨put f d v, rows, clk⟩ := WD
theorem amf {op : UnOp} {t : TypeId} {x : Operand} : go (aK E ops (⟨d, .unOp op t x, ty, pos, af, none⟩ :: os) K ⟨f, rows, clk⟩) = aU (fun v => yun op (aQ f x) v) fun v => aK E ops os K ⟨put f d v, rows, clk⟩ := abW
theorem D9 {s t : TypeId} {x : Operand} : go (aK E ops (⟨d, .convert s t x, ty, pos, af, none⟩ :: os) K ⟨f, rows, clk⟩) = aU (fun v => qT (E.ty s) (E.ty t) (aQ f x) v) fun v => aK E ops os K ⟨put f d v, rows, clk⟩ := RZ
theorem L4 {i : Nat} {x : Operand} : go (aK E ops (⟨d, .extract x i, ty, pos, af, none⟩ :: os) K ⟨f, rows, clk⟩) = sW i (aQ f x) fun v => aK E ops os K ⟨put f d v, rows, clk⟩ := by
 show aK E ops (⟨d, .extract x i, ty, pos, af, none⟩ :: os) K ⟨f, rows, clk⟩ = _
 rw [D3, CE]
theorem acb {t : TypeId} {x : Operand} : go (aK E ops (⟨d, .load t x, ty, pos, af, none⟩ :: os) K ⟨f, rows, clk⟩) = jN E t rows (aQ f x) fun v => aK E ops os K ⟨put f d v, rows, clk⟩ := L2
theorem WU {t : TypeId} {i : Nat} {x : Operand} : go (aK E ops (⟨d, .field t x i, ty, pos, af, none⟩ :: os) K ⟨f, rows, clk⟩) = iX (E.ty t) i (aQ f x) fun v => aK E ops os K ⟨put f d v, rows, clk⟩ := HH
theorem EA {t : TypeId} {i : Nat} {x : Operand} : go (aK E ops (⟨d, .fieldAddr t x i, ty, pos, af, none⟩ :: os) K ⟨f, rows, clk⟩) = c8 (E.ty t) rows i (aQ f x) fun v => aK E ops os K ⟨put f d v, rows, clk⟩ := w5
theorem EB {t : TypeId} {x y : Operand} : go (aK E ops (⟨d, .indexAddr t x y, ty, pos, af, none⟩ :: os) K ⟨f, rows, clk⟩) = bT (E.ty t) rows (aQ f x) (aQ f y) fun v => aK E ops os K ⟨put f d v, rows, clk⟩ := w6
theorem WV {t : TypeId} {x : Operand} {lo hi mx : Option Operand} : go (aK E ops (⟨d, .slice t x lo hi mx, ty, pos, af, none⟩ :: os) K ⟨f, rows, clk⟩) = eO (E.ty t) rows (aQ f x) (lo.map (aQ f)) (hi.map (aQ f)) (mx.map (aQ f)) fun v => aK E ops os K ⟨put f d v, rows, clk⟩ := HI
theorem WW {t : TypeId} {parts : Array (Nat × Operand)} : go (aK E ops (⟨d, .build t parts, ty, pos, af, none⟩ :: os) K ⟨f, rows, clk⟩) = jW (E.ty t) (parts.toList.map fun x => (x.1, aQ f x.2)) fun v => aK E ops os K ⟨put f d v, rows, clk⟩ := by
 show aK E ops (⟨d, .build t parts, ty, pos, af, none⟩ :: os) K ⟨f, rows, clk⟩ = _
 rw [LO, vW]
theorem HN {t : TypeId} {x y : Operand} : go (aK E ops (⟨d, .index t x y, ty, pos, af, none⟩ :: os) K ⟨f, rows, clk⟩) = aU (fun v => rI (E.ty t) (aQ f x) (aQ f y) v) fun v => aK E ops os K ⟨put f d v, rows, clk⟩ := LP
theorem HO {x : Operand} : go (aK E ops (⟨d, .nilCheck x, ty, pos, af, none⟩ :: os) K ⟨f, rows, clk⟩) = q9 rows (aQ f x) fun v => aK E ops os K ⟨put f d v, rows, clk⟩ := by show aK E ops _ K _ = _; rw [BB, CA]
theorem ahb {t : TypeId} {x : Operand} : go (aK E ops (⟨d, .call { callee := .builtin .len, args := ⟨[x]⟩, argTypes := ⟨[t]⟩ }, ty, pos, af, none⟩ :: os) K ⟨f, rows, clk⟩) = kA (E.ty t) rows (aQ f x) fun v => aK E ops os K ⟨put f d v, rows, clk⟩ := SC
theorem ahc {ts : Array TypeId} {x y : Operand} : go (aK E ops (⟨d, .call { callee := .builtin .max, args := ⟨[x, y]⟩, argTypes := ts }, ty, pos, af, none⟩ :: os) K ⟨f, rows, clk⟩) = aU (fun v => KP (aQ f x) (aQ f y) v) fun v => aK E ops os K ⟨put f d v, rows, clk⟩ := WG
theorem ahd {ts : Array TypeId} {x y : Operand} : go (aK E ops (⟨d, .call { callee := .builtin .min, args := ⟨[x, y]⟩, argTypes := ts }, ty, pos, af, none⟩ :: os) K ⟨f, rows, clk⟩) = aU (fun v => KQ (aQ f x) (aQ f y) v) fun v => aK E ops os K ⟨put f d v, rows, clk⟩ := WH
theorem BG {t : TypeId} {len : Nat} {parts : Array (Nat × Operand)} : go (aK E ops (⟨d, .buildSlice t len parts, ty, pos, af, none⟩ :: os) K ⟨f, rows, clk⟩) = sV (E.ty t) rows len (parts.toList.map fun x => (x.1, aQ f x.2)) fun v => aK E ops os K ⟨put f d v, rows, clk⟩ := by
 show aK E ops (⟨d, .buildSlice t len parts, ty, pos, af, none⟩ :: os) K ⟨f, rows, clk⟩ = _
 rw [wY, CD]
theorem WX {t : TypeId} {p x : Operand} : go (aK E ops (⟨none, .store t p x, ty, pos, af, none⟩ :: os) K ⟨f, rows, clk⟩) = iY E t rows (aQ f p) (aQ f x) fun id r => aK E ops os K ⟨f, dE rows id (some r), clk⟩ := HJ
theorem WY {t : TypeId} : go (aK E ops (⟨d, .alloc t, ty, pos, af, none⟩ :: os) K ⟨f, rows, clk⟩) = aH ((E.ty t).known = true) (aK E ops os K ⟨put f d (.ptr (d.getD 0) clk 0 0), dE rows (d.getD 0) (some ⟨clk, t, (E.ty t).size, [(E.ty t).zero]⟩), clk + 1⟩) := LR
theorem ahe {t : TypeId} {x : Operand} : go (aK E ops (⟨d, .box t x, ty, pos, af, none⟩ :: os) K ⟨f, rows, clk⟩) = aH ((E.ty t).known = true) (eM (bP (aQ f x)) fun l => aH (fP rows l ∧ l.length = (E.ty t).size) (aK E ops os K ⟨put f d (.ptr (d.getD 0) clk 0 0), dE rows (d.getD 0) (some ⟨clk, t, (E.ty t).size, [l]⟩), clk + 1⟩)) := by
 show aK E ops (⟨d, .box t x, ty, pos, af, none⟩ :: os) K ⟨f, rows, clk⟩ = _
 rw [WI]
 simp only [aH, eM, fP, and_assoc]
theorem EC {t : TypeId} {l c : Operand} : go (aK E ops (⟨d, .makeSlice t l c, ty, pos, af, none⟩ :: os) K ⟨f, rows, clk⟩) = oU (E.ty t) (aQ f l) (aQ f c) fun e n z x => aK E ops os K ⟨put f d (.own (d.getD 0) clk 0 x.toNat), dE rows (d.getD 0) (some ⟨clk, e, n, List.replicate x.toNat z⟩), clk + 1⟩ := yT
theorem SE {t t2 : TypeId} {x y : Operand} : go (aK E ops (⟨d, .call { callee := .builtin .append, args := ⟨[x, y]⟩, argTypes := ⟨[t, t2]⟩ }, ty, pos, af, none⟩ :: os) K ⟨f, rows, clk⟩) = aH (t2 = t ∨ VD (E.ty t2) = true) (oW (E.ty t) rows (aQ f x) (aQ f y) clk (d.getD 0) fun v rows clk => aK E ops os K ⟨put f d v, rows, clk⟩) := D8
theorem acd {fo : Operand} {args : Array Operand} {ts : Array TypeId} : go (aK E ops (⟨d, .call { callee := .value fo, args := args, argTypes := ts }, ty, pos, af, none⟩ :: os) K ⟨f, rows, clk⟩) = oV E (aQ f fo) (args.toList.map (aQ f)) rows clk fun v rows clk => aK E ops os K ⟨put f d v, rows, clk⟩ := R5
theorem HP {g : FuncId} {b8 : Array Operand} : go (aK E ops (⟨d, .makeFunc (.func g) ⟨[]⟩ b8, ty, pos, af, none⟩ :: os) K ⟨f, rows, clk⟩) = aH (((b8.toList.map (aQ f)).map (pz rows)).all eV = true ∧ dM rows ((b8.toList.map (aQ f)).flatMap dC))
      (aK E ops os K ⟨put f d (.fn g ((b8.toList.map (aQ f)).map (pz rows))), B3 rows ((b8.toList.map (aQ f)).flatMap dC), clk⟩) := BC
theorem WZ {op : Op} {j : Nat} {want : Bool} : go (aK E ops (⟨d, op, ty, pos, af, some (j, want)⟩ :: os) K ⟨f, rows, clk⟩) = nG (BF ops j) f want (aK E ops (⟨d, op, ty, pos, af, none⟩ :: os) K ⟨f, rows, clk⟩) (aK E ops os K ⟨put f d (.eN []), rows, clk⟩) := by
 rw [D7, ← HF]; rfl
theorem ace {x : Operand} : go (aN E ops clk k (⟨d, .move x, ty, pos, af, none⟩ :: os) K ⟨f, rows, bM, aO⟩) = go (aN E ops clk (k + 1) os K ⟨put f d (aQ f x), rows, bM, aO⟩) := R6
theorem SF {x : Operand} : go (aN E ops clk k (⟨d, .assign x, ty, pos, af, none⟩ :: os) K ⟨f, rows, bM, aO⟩) = go (aN E ops clk (k + 1) os K ⟨put f d (aQ f x), rows, bM, aO⟩) := G7
theorem acf {c a b : Operand} : go (aN E ops clk k (⟨d, .pick c a b, ty, pos, af, none⟩ :: os) K ⟨f, rows, bM, aO⟩) = gF (aQ f c) true (aN E ops clk (k + 1) os K ⟨put f d (aQ f a), rows, bM, aO⟩) (aN E ops clk (k + 1) os K ⟨put f d (aQ f b), rows, bM, aO⟩) := R7
theorem ahf {op : BinOp} {t t2 : TypeId} {x y : Operand} : go (aN E ops clk k (⟨d, .binOp op t x y t2, ty, pos, af, none⟩ :: os) K ⟨f, rows, bM, aO⟩) = aU (fun v => DL E op t (aQ f x) (aQ f y) v) fun v => aN E ops clk (k + 1) os K ⟨put f d v, rows, bM, aO⟩ := WJ
theorem amg {op : UnOp} {t : TypeId} {x : Operand} : go (aN E ops clk k (⟨d, .unOp op t x, ty, pos, af, none⟩ :: os) K ⟨f, rows, bM, aO⟩) = aU (fun v => yun op (aQ f x) v) fun v => aN E ops clk (k + 1) os K ⟨put f d v, rows, bM, aO⟩ := abY
theorem acg {s t : TypeId} {x : Operand} : go (aN E ops clk k (⟨d, .convert s t x, ty, pos, af, none⟩ :: os) K ⟨f, rows, bM, aO⟩) = aU (fun v => qT (E.ty s) (E.ty t) (aQ f x) v) fun v => aN E ops clk (k + 1) os K ⟨put f d v, rows, bM, aO⟩ := R8
theorem L5 {i : Nat} {x : Operand} : go (aN E ops clk k (⟨d, .extract x i, ty, pos, af, none⟩ :: os) K ⟨f, rows, bM, aO⟩) = sW i (aQ f x) fun v => aN E ops clk (k + 1) os K ⟨put f d v, rows, bM, aO⟩ := by
 show aN E ops clk k (⟨d, .extract x i, ty, pos, af, none⟩ :: os) K ⟨f, rows, bM, aO⟩ = _
 rw [D4, CE]
theorem ach {t : TypeId} {x : Operand} : go (aN E ops clk k (⟨d, .load t x, ty, pos, af, none⟩ :: os) K ⟨f, rows, bM, aO⟩) = jN E t (dN .any ops k aO rows) (aQ f x) fun v => aN E ops clk (k + 1) os K ⟨put f d v, rows, j0 k (aZ (aQ f x)) bM, aO⟩ := L3
theorem W1 {t : TypeId} {i : Nat} {x : Operand} : go (aN E ops clk k (⟨d, .field t x i, ty, pos, af, none⟩ :: os) K ⟨f, rows, bM, aO⟩) = iX (E.ty t) i (aQ f x) fun v => aN E ops clk (k + 1) os K ⟨put f d v, rows, bM, aO⟩ := HK
theorem ED {t : TypeId} {i : Nat} {x : Operand} : go (aN E ops clk k (⟨d, .fieldAddr t x i, ty, pos, af, none⟩ :: os) K ⟨f, rows, bM, aO⟩) = c8 (E.ty t) (dN .any ops k aO rows) i (aQ f x) fun v => aN E ops clk (k + 1) os K ⟨put f d v, rows, j0 k (aZ (aQ f x)) bM, aO⟩ := w7
theorem EE {t : TypeId} {x y : Operand} : go (aN E ops clk k (⟨d, .indexAddr t x y, ty, pos, af, none⟩ :: os) K ⟨f, rows, bM, aO⟩) = bT (E.ty t) (dN .any ops k aO rows) (aQ f x) (aQ f y) fun v => aN E ops clk (k + 1) os K ⟨put f d v, rows, j0 k (aZ (aQ f x)) bM, aO⟩ := w8
theorem W2 {t : TypeId} {x : Operand} {lo hi mx : Option Operand} : go (aN E ops clk k (⟨d, .slice t x lo hi mx, ty, pos, af, none⟩ :: os) K ⟨f, rows, bM, aO⟩) = eO (E.ty t) (dN .any ops k aO rows) (aQ f x) (lo.map (aQ f)) (hi.map (aQ f)) (mx.map (aQ f)) fun v => aN E ops clk (k + 1) os K ⟨put f d v, rows, j0 k (aZ (aQ f x)) bM, aO⟩ := HL
theorem W3 {t : TypeId} {parts : Array (Nat × Operand)} : go (aN E ops clk k (⟨d, .build t parts, ty, pos, af, none⟩ :: os) K ⟨f, rows, bM, aO⟩) = jW (E.ty t) (parts.toList.map fun x => (x.1, aQ f x.2)) fun v => aN E ops clk (k + 1) os K ⟨put f d v, rows, bM, aO⟩ := by
 show aN E ops clk k (⟨d, .build t parts, ty, pos, af, none⟩ :: os) K ⟨f, rows, bM, aO⟩ = _
 rw [LW, vW]
theorem HQ {x : Operand} : go (aN E ops clk k (⟨d, .nilCheck x, ty, pos, af, none⟩ :: os) K ⟨f, rows, bM, aO⟩) = q9 (dN .any ops k aO rows) (aQ f x) fun v => aN E ops clk (k + 1) os K ⟨put f d v, rows, j0 k (aZ (aQ f x)) bM, aO⟩ := by show aN E ops clk k _ K _ = _; rw [BD, CA]
theorem ahg {t : TypeId} {x : Operand} : go (aN E ops clk k (⟨d, .call { callee := .builtin .len, args := ⟨[x]⟩, argTypes := ⟨[t]⟩ }, ty, pos, af, none⟩ :: os) K ⟨f, rows, bM, aO⟩) = kA (E.ty t) (dN .any ops k aO rows) (aQ f x) fun v => aN E ops clk (k + 1) os K ⟨put f d v, rows, j0 k (aZ (aQ f x)) bM, aO⟩ := SD
theorem ahh {ts : Array TypeId} {x y : Operand} : go (aN E ops clk k (⟨d, .call { callee := .builtin .max, args := ⟨[x, y]⟩, argTypes := ts }, ty, pos, af, none⟩ :: os) K ⟨f, rows, bM, aO⟩) = aU (fun v => KP (aQ f x) (aQ f y) v) fun v => aN E ops clk (k + 1) os K ⟨put f d v, rows, bM, aO⟩ := WL
theorem ahj {ts : Array TypeId} {x y : Operand} : go (aN E ops clk k (⟨d, .call { callee := .builtin .min, args := ⟨[x, y]⟩, argTypes := ts }, ty, pos, af, none⟩ :: os) K ⟨f, rows, bM, aO⟩) = aU (fun v => KQ (aQ f x) (aQ f y) v) fun v => aN E ops clk (k + 1) os K ⟨put f d v, rows, bM, aO⟩ := WM
theorem BH {t : TypeId} {len : Nat} {parts : Array (Nat × Operand)} : go (aN E ops clk k (⟨d, .buildSlice t len parts, ty, pos, af, none⟩ :: os) K ⟨f, rows, bM, aO⟩) = sV (E.ty t) (dN .any ops k aO rows) len (parts.toList.map fun x => (x.1, aQ f x.2)) fun v => aN E ops clk (k + 1) os K ⟨put f d v, rows, bM, aO⟩ := by
 show aN E ops clk k (⟨d, .buildSlice t len parts, ty, pos, af, none⟩ :: os) K ⟨f, rows, bM, aO⟩ = _
 rw [wZ, CD]
theorem W4 {t : TypeId} {p x : Operand} : go (aN E ops clk k (⟨none, .store t p x, ty, pos, af, none⟩ :: os) K ⟨f, rows, bM, aO⟩) = iY E t (dN .any ops k aO rows) (aQ f p) (aQ f x) fun id r => aH (yK .any ops k id bM) (aN E ops clk (k + 1) os K ⟨f, dE rows id (some r), j0 k (aZ (aQ f p) ++ ((bP (aQ f x)).getD []).flatMap aZ) bM, nD k id aO⟩) := HM
theorem W5 {t : TypeId} : go (aN E ops clk k (⟨d, .alloc t, ty, pos, af, none⟩ :: os) K ⟨f, rows, bM, aO⟩) = aH ((E.ty t).known = true ∧ yK .any ops k (d.getD 0) bM) (aN E ops (clk + 1) (k + 1) os K ⟨put f d (.ptr (d.getD 0) clk 0 0), dE rows (d.getD 0) (some ⟨clk, t, (E.ty t).size, [(E.ty t).zero]⟩), bM, nD k (d.getD 0) aO⟩) := LY
theorem ahk {t : TypeId} {x : Operand} : go (aN E ops clk k (⟨d, .box t x, ty, pos, af, none⟩ :: os) K ⟨f, rows, bM, aO⟩) = aH ((E.ty t).known = true) (eM (bP (aQ f x)) fun l => aH (fP (fun _ => none) l ∧ l.length = (E.ty t).size ∧ yK .any ops k (d.getD 0) bM) (aN E ops (clk + 1) (k + 1) os K ⟨put f d (.ptr (d.getD 0) clk 0 0), dE rows (d.getD 0) (some ⟨clk, t, (E.ty t).size, [l]⟩), bM, nD k (d.getD 0) aO⟩)) := by
 show aN E ops clk k (⟨d, .box t x, ty, pos, af, none⟩ :: os) K ⟨f, rows, bM, aO⟩ = _
 rw [WO]
 simp only [aH, eM, fP]
theorem EF {t : TypeId} {l c : Operand} : go (aN E ops clk k (⟨d, .makeSlice t l c, ty, pos, af, none⟩ :: os) K ⟨f, rows, bM, aO⟩) = oU (E.ty t) (aQ f l) (aQ f c) fun e n z x => aH (yK .any ops k (d.getD 0) bM) (aN E ops (clk + 1) (k + 1) os K ⟨put f d (.own (d.getD 0) clk 0 x.toNat), dE rows (d.getD 0) (some ⟨clk, e, n, List.replicate x.toNat z⟩), bM, nD k (d.getD 0) aO⟩) := yW
def rD (t : TI) (rows : Rows) (x y : PV) (clk d : Nat) (K : PV → Nat → Row → Prop) : Prop :=
 match t with
 | .slice e n b _ => jD rows y fun l => aH (bC n l) (match x with
  | .nil => aH (l.length ≤ room ∧ l.length * b ≤ room) (K (.own d clk 0 l.length) d ⟨clk, e, n, l⟩)
  | .own id ver off len => bL (rows id) ver fun r => aH (off = 0 ∧ len = r.els.length ∧ r.e = e ∧ r.size = n) (aH (len + l.length ≤ room ∧ (len + l.length) * b ≤ room) (K (.own id clk 0 (len + l.length)) id ⟨clk, e, n, r.els ++ l⟩))
  | _ => False)
 | _ => False
@[congr] theorem aeY {t t' : TI} {rows rows' : Rows} {x x' y y' : PV} {clk d : Nat} {K : PV → Nat → Row → Prop} (h1 : t = t') (h2 : rows = rows') (h3 : x = x') (h4 : y = y') :
  rD t rows x y clk d K = rD t' rows' x' y' clk d K := by rw [h1, h2, h3, h4]
@[simp] theorem ake {e : TypeId} {n b : Nat} {z : List PV} {rows : Rows} {y : PV} {clk d : Nat} {K : PV → Nat → Row → Prop} : rD (.slice e n b z) rows .nil y clk d K = jD rows y fun l => aH (bC n l) (aH (l.length ≤ room ∧ l.length * b ≤ room) (K (.own d clk 0 l.length) d ⟨clk, e, n, l⟩)) := rfl
@[simp] theorem akf {e : TypeId} {n b : Nat} {z : List PV} {rows : Rows} {y : PV} {clk d id ver off len : Nat} {K : PV → Nat → Row → Prop} : rD (.slice e n b z) rows (.own id ver off len) y clk d K = jD rows y fun l => aH (bC n l) (bL (rows id) ver fun r => aH (off = 0 ∧ len = r.els.length ∧ r.e = e ∧ r.size = n) (aH (len + l.length ≤ room ∧ (len + l.length) * b ≤ room) (K (.own id clk 0 (len + l.length)) id ⟨clk, e, n, r.els ++ l⟩))) := rfl
@[simp] theorem amh (t : TI) (r : Rows) (x y : PV) (c d : Nat) (K : PV → Nat → Row → Prop) : go (rD t r x y c d K) = rD t r x y c d K := rfl
theorem W6 {t : TI} {rows : Rows} {x y : PV} {clk d : Nat} {K : PV → Nat → Row → Prop} : (∃ v id r, oS t rows x y clk d v (some (id, r)) ∧ K v id r) = rD t rows x y clk d K := by
 cases t with
 | slice e n b z =>
  simp only [rD, oS]
  rw [← OU]
  apply propext
  cases x with
  | nil =>
   simp only [aH, bC]
   constructor
   ·rintro ⟨v, id, r, ⟨l, h1, h2, h3, h4, rfl, h5⟩, h6⟩
    cases h5
    exact ⟨l, h1, h2, ⟨h3, h4⟩, h6⟩
   ·rintro ⟨l, h1, h2, ⟨h3, h4⟩, h6⟩
    exact ⟨_, _, _, ⟨l, h1, h2, h3, h4, rfl, rfl⟩, h6⟩
  | own id ver off len =>
   simp only [aH, bC, bL]
   constructor
   ·rintro ⟨v, iQ, r', ⟨l, h1, h2, r, h3, h4, h5, h6, h7, h8, h9, h10, rfl, h11⟩, h12⟩
    cases h11
    exact ⟨l, h1, h2, r, h3, h4, ⟨h5, h6, h7, h8⟩, ⟨h9, h10⟩, h12⟩
   ·rintro ⟨l, h1, h2, r, h3, h4, ⟨h5, h6, h7, h8⟩, ⟨h9, h10⟩, h12⟩
    exact ⟨_, _, _, ⟨l, h1, h2, r, h3, h4, h5, h6, h7, h8, h9, h10, rfl, rfl⟩, h12⟩
  | _ => simp [aH]
 | _ => simp [rD, oS]
theorem SG {t t2 : TypeId} {x y : Operand} : go (aN E ops clk k (⟨d, .call { callee := .builtin .append, args := ⟨[x, y]⟩, argTypes := ⟨[t, t2]⟩ }, ty, pos, af, none⟩ :: os) K ⟨f, rows, bM, aO⟩) =
  aH (t2 = t ∨ VD (E.ty t2) = true) (rD (E.ty t) (dN .any ops k aO rows) (aQ f x) (aQ f y) clk (d.getD 0) fun v id r => aH (yK .any ops k id bM) (aN E ops (clk + 1) (k + 1) os K ⟨put f d v, dE rows id (some r), j0 k (aZ (aQ f x) ++ aZ (aQ f y)) bM, nD k id aO⟩)) := by
 show aN E ops clk k (⟨d, .call { callee := .builtin .append, args := ⟨[x, y]⟩, argTypes := ⟨[t, t2]⟩ }, ty, pos, af, none⟩ :: os) K ⟨f, rows, bM, aO⟩ = _
 rw [G8]
 congr 1
 exact W6
theorem W7 {s : Tmp} {args : Array Operand} {ts : Array TypeId} : go (aN E ops clk k (⟨d, .call { callee := .value (.tmp s), args := args, argTypes := ts }, ty, pos, af, none⟩ :: os) K ⟨f, rows, bM, aO⟩) = nE E (f s) (args.toList.map (aQ f)) (dN .any ops k aO rows) fun v => aN E ops clk (k + 1) os K ⟨put f d v, rows, bM, aO⟩ := B8 rfl
def pY (P : Program) (g : FuncId) (args : List PV) (c : Prop) (K : TypeId → Nat → List (List PV) → Prop) : Prop := ∃ e n els, (args.all eV = true ∧ jL P g args e n els ∧ c) ∧ K e n els
@[congr] theorem abj {P : Program} {g : FuncId} {args G6 : List PV} {c c' : Prop} {K : TypeId → Nat → List (List PV) → Prop} (h : args = G6) (hc : c = c') : pY P g args c K = pY P g G6 c' K := by rw [h, hc]
@[simp] theorem ahl {P : Program} {g : FuncId} {args : List PV} {c : Prop} {K : TypeId → Nat → List (List PV) → Prop} : go (pY P g args c K) = pY P g args c K := rfl
theorem W8 {P : Program} {g : FuncId} {args : List PV} {c : Prop} {K : TypeId → Nat → List (List PV) → Prop} {e : TypeId} {n : Nat} {els : List (List PV)} (h : jL P g args e n els) (hp : args.all eV = true) (hc : c) (hK : go (K e n els)) : pY P g args c K := ⟨e, n, els, ⟨hp, h, hc⟩, hK⟩
theorem W9 {g : FuncId} {args : Array Operand} {ts : Array TypeId} : go (aN E ops clk k (⟨d, .call { callee := .value (.func g), args := args, argTypes := ts }, ty, pos, af, none⟩ :: os) K ⟨f, rows, bM, aO⟩) =
  if E.writes g = true then pY E.P g (args.toList.map (aQ f)) (yK .any ops k (d.getD 0) bM) (fun e n els => aN E ops (clk + 1) (k + 1) os K ⟨put f d (.own (d.getD 0) clk 0 els.length), dE rows (d.getD 0) (some ⟨clk, e, n, els⟩), bM, nD k (d.getD 0) aO⟩)
  else nE E (.fn g []) (args.toList.map (aQ f)) (dN .any ops k aO rows) fun v => aN E ops clk (k + 1) os K ⟨put f d v, rows, bM, aO⟩ := by
 split
 ·rename_i hw; exact LZ hw
 ·rename_i hw; exact B8 (by simpa [cW] using hw)
theorem HR {g : FuncId} {b8 : Array Operand} : go (aN E ops clk k (⟨d, .makeFunc (.func g) ⟨[]⟩ b8, ty, pos, af, none⟩ :: os) K ⟨f, rows, bM, aO⟩) = aH ((b8.toList.map fun x => aQ f x).all eV = true) (aN E ops clk (k + 1) os K ⟨put f d (.fn g (b8.toList.map fun x => aQ f x)), rows, bM, aO⟩) := BE
theorem XA {op : Op} {j : Nat} {want : Bool} : go (aN E ops clk k (⟨d, op, ty, pos, af, some (j, want)⟩ :: os) K ⟨f, rows, bM, aO⟩) = nG (BF ops j) f want (aN E ops clk k (⟨d, op, ty, pos, af, none⟩ :: os) K ⟨f, rows, bM, aO⟩) (aN E ops clk (k + 1) os K ⟨put f d (.eN []), rows, bM, aO⟩) := by
 rw [D7, ← HG]; rfl
theorem XB {σ : PS} : go (aK E ops [] K σ) = K σ := rfl
theorem ahm {st : ST} : go (aN E ops clk k [] K st) = go (K ⟨st.f, st.rows, clk⟩) := rfl
@[simp] theorem OX {s : Nat} : aQ f (.tmp s) = f s := rfl
@[simp] theorem amj {g : FuncId} : aQ f (.func g) = .fn g [] := rfl
@[simp] theorem SH {v : Value} : aQ f (.const v) = mA v := rfl
end
@[simp] theorem ahn {k : IntKind} {n : Int} : mA (.int k n) = .int k n := rfl
@[simp] theorem aeZ {b : Bool} : mA (.bool b) = .bool b := rfl
@[simp] theorem L6 {s : ByteArray} : mA (.string s) = .str s := rfl
@[simp] theorem ae0 : mA (.pointer none) = .i9 := rfl
@[simp] theorem ae1 : gX (.pointer none) = .i9 := rfl
@[simp] theorem aho : mA (.slice none 0 0) = .nil := rfl
@[simp] theorem ahp {cs : List Value} : mA (.agg ⟨cs⟩) = .ag (cs.map gX) := rfl
@[simp] theorem ahq {k : IntKind} {n : Int} : gX (.int k n) = .int k n := rfl
@[simp] theorem ae2 {b : Bool} : gX (.bool b) = .bool b := rfl
@[simp] theorem ahr {s : ByteArray} : gX (.string s) = .str s := rfl
@[simp] theorem ahs : gX (.slice none 0 0) = .nil := rfl
@[simp] theorem amk (R K : PV → Prop) : go (aU R K) = aU R K := rfl
@[simp] theorem aml (p : PV) (w : Bool) (A B : Prop) : go (stepG p w A B) = stepG p w A B := rfl
@[simp] theorem amm (p : PV) (w : Bool) (A B : Prop) : go (gF p w A B) = gF p w A B := rfl
@[simp] theorem amn (A B : Prop) : go (aH A B) = aH A B := rfl
@[simp] theorem amo (P : Program) (g : FuncId) (l : List PV) (K : PV → Prop) : go (sR P g l K) = sR P g l K := rfl
@[simp] theorem aht (o : Option Row) (v : Nat) (K : Row → Prop) : go (bL o v K) = bL o v K := rfl
@[simp] theorem arP (l : List (List PV)) (i : Nat) (K : List PV → Prop) : go (B9 l i K) = B9 l i K := rfl
@[simp] theorem arQ (t : TI) (l : List PV) (j : Nat) (K : PV → Prop) : go (vS t l j K) = vS t l j K := rfl
@[simp] theorem akg (E : Env) (t : TypeId) (r : Rows) (p : PV) (K : PV → Prop) : go (jN E t r p K) = jN E t r p K := rfl
@[simp] theorem ahu (t : TI) (i : Nat) (x : PV) (K : PV → Prop) : go (iX t i x K) = iX t i x K := rfl
@[simp] theorem apI (p : Nat × Nat × Bool) (l : List PV) (K : PV → Prop) : go (D5 p l K) = D5 p l K := rfl
@[simp] theorem amp (r : Rows) (x : PV) (K : PV → Prop) : go (q9 r x K) = q9 r x K := rfl
@[simp] theorem XC (t : TI) (r : Rows) (i : Nat) (x : PV) (K : PV → Prop) : go (c8 t r i x K) = c8 t r i x K := rfl
@[simp] theorem XD (t : TI) (r : Rows) (x y : PV) (K : PV → Prop) : go (bT t r x y K) = bT t r x y K := rfl
@[simp] theorem arR (d : Nat) (o : Option PV) (K : Nat → Prop) : go (vU d o K) = vU d o K := rfl
@[simp] theorem ahv (t : TI) (r : Rows) (x : PV) (a b c : Option PV) (K : PV → Prop) : go (eO t r x a b c K) = eO t r x a b c K := rfl
@[simp] theorem amq (t : TI) (r : Rows) (x : PV) (K : PV → Prop) : go (kA t r x K) = kA t r x K := rfl
@[simp] theorem ahw (E : Env) (t : TypeId) (r : Rows) (p x : PV) (K : Nat → Row → Prop) : go (iY E t r p x K) = iY E t r p x K := rfl
@[simp] theorem amr (r : Rows) (y : PV) (K : List (List PV) → Prop) : go (jD r y K) = jD r y K := rfl
@[simp] theorem ams (t : TI) (r : Rows) (x y : PV) (c d : Nat) (K : PV → Rows → Nat → Prop) : go (oW t r x y c d K) = oW t r x y c d K := rfl
@[simp] theorem amt (t : TI) (x y : PV) (K : TypeId → Nat → List PV → Int → Prop) : go (oU t x y K) = oU t x y K := rfl
@[simp] theorem akh (E : Env) (p : PV) (l : List PV) (r : Rows) (clk : Nat) (K : PV → Rows → Nat → Prop) : go (oV E p l r clk K) = oV E p l r clk K := rfl
@[simp] theorem amu (P : Program) (g : FuncId) (l : List PV) (r : Rows) (clk : Nat) (K : PV → Rows → Nat → Prop) : go (vM P g l r clk K) = vM P g l r clk K := rfl
@[simp] theorem aki (E : Env) (p : PV) (l : List PV) (r : Rows) (K : PV → Prop) : go (nE E p l r K) = nE E p l r K := rfl
@[simp] theorem amv {fs : List (Nat × Nat × Bool)} {ps : List (Nat × PV)} {z : List PV} {K : List PV → Prop} : go (kP fs ps z K) = kP fs ps z K := rfl
@[simp] theorem ahx {t : TI} {ps : List (Nat × PV)} {K : PV → Prop} : go (jW t ps K) = jW t ps K := rfl
@[simp] theorem akj {n k : Nat} {ps : List (Nat × PV)} {K : List (List PV) → Prop} : go (gZ n k ps K) = gZ n k ps K := rfl
@[simp] theorem amw {t : TI} {rows : Rows} {len : Nat} {ps : List (Nat × PV)} {K : PV → Prop} : go (sV t rows len ps K) = sV t rows len ps K := rfl
@[simp] theorem amx {i : Nat} {x : PV} {K : PV → Prop} : go (sW i x K) = sW i x K := rfl
@[simp] theorem apJ {α : Type} (o : Option α) (K : α → Prop) : go (eM o K) = eM o K := rfl
@[simp] theorem auJ {α : Type} (p : α → Prop) : go (∃ x, p x) = ∃ x, go (p x) := rfl
@[simp] theorem amy : go False = False := rfl
@[simp] theorem auK {p : Prop} : go (go p) = go p := rfl
@[simp] theorem ae3 {t : PV} {K : PV → Prop} : aU (fun v => v = t) K = go (K t) := iW
@[simp] theorem arS {t : PV} {K : PV → Prop} : aU (fun v => t = v) K = go (K t) := RW
@[simp] theorem acj {B : Prop} : aH True B = go B := LI
@[simp] theorem auL {A B : Prop} : stepG (.bool true) true A B = go A := V6
@[simp] theorem auM {A B : Prop} : stepG (.bool true) false A B = go B := V7
@[simp] theorem auN {A B : Prop} : stepG (.bool false) true A B = go B := V8
@[simp] theorem auO {A B : Prop} : stepG (.bool false) false A B = go A := V9
@[simp] theorem auP {w : Bool} {A B : Prop} : stepG (.eN []) w A B = go B := WA
@[simp] theorem auQ {A B : Prop} : gF (.bool true) true A B = go A := V3
@[simp] theorem auR {A B : Prop} : gF (.bool true) false A B = go B := V4
@[simp] theorem auS {A B : Prop} : gF (.bool false) true A B = go B := V5
@[simp] theorem auT {A B : Prop} : gF (.bool false) false A B = go A := WB
theorem gA {c B : Prop} (h : c) : aH c B = go B := by simp [aH, go, h]
attribute [simp] iH V2 yQ WC agV LJ D2 OW CF aca WT amf D9 L4 acb WU EA EB WV WW HN HO HQ ahb ahc ahd BG WX WY ahe EC SE acd HP WZ ace SF acf ahf amg acg L5 ach W1 ED EE W2 W3 ahg ahh ahj BH W4 W5 ahk EF SG W7 W9 HR XA XB ahm
attribute [simp] VD DL yun qT rI KP KQ oU oV nE qS TI.known TI.size TI.zero TI.agg VW abV G2 room
theorem BI {E : Env} {ops : List Oper} {K : PS → Prop} {f : Nat → PV} {rows : Rows} {clk : Nat} : fJ E 0 ops K ⟨f, rows, clk⟩ = aN E ops clk 0 ops K ⟨f, rows, fun _ _ => False, fun _ _ => False⟩ := by simp [fJ]
@[simp] theorem akk {b : Bool} : eV (.bool b) = true := rfl
@[simp] theorem ahy {b : Bool} : b5 (.bool b) = true := rfl
@[simp] theorem akl {b : Bool} : aZ (.bool b) = [] := rfl
@[simp] theorem akm {rows : Rows} {b : Bool} : gN rows (.bool b) = True := rfl
@[simp] theorem ae4 {b : Bool} : bP (.bool b) = some [.bool b] := rfl
@[simp] theorem ae5 {b : Bool} : eA (.bool b) = some [.bool b] := rfl
@[simp] theorem amz {k : IntKind} {n : Int} : eV (.int k n) = true := rfl
@[simp] theorem akn {k : IntKind} {n : Int} : b5 (.int k n) = true := rfl
@[simp] theorem amA {k : IntKind} {n : Int} : aZ (.int k n) = [] := rfl
@[simp] theorem amB {rows : Rows} {k : IntKind} {n : Int} : gN rows (.int k n) = True := rfl
@[simp] theorem ahz {k : IntKind} {n : Int} : bP (.int k n) = some [.int k n] := rfl
@[simp] theorem ahA {k : IntKind} {n : Int} : eA (.int k n) = some [.int k n] := rfl
@[simp] theorem amC {s : ByteArray} : eV (.str s) = true := rfl
@[simp] theorem ako {s : ByteArray} : b5 (.str s) = true := rfl
@[simp] theorem amD {s : ByteArray} : aZ (.str s) = [] := rfl
@[simp] theorem amE {rows : Rows} {s : ByteArray} : gN rows (.str s) = True := rfl
@[simp] theorem ahB {s : ByteArray} : bP (.str s) = some [.str s] := rfl
@[simp] theorem ahC {s : ByteArray} : eA (.str s) = some [.str s] := rfl
@[simp] theorem akp  : eV .i9 = true := rfl
@[simp] theorem ahD  : b5 .i9 = true := rfl
@[simp] theorem akq  : aZ .i9 = [] := rfl
@[simp] theorem akr  : dC .i9 = [] := rfl
@[simp] theorem apK {rows : Rows} : fz rows .i9 = .i9 := rfl
@[simp] theorem apL {rows : Rows} : pz rows .i9 = .i9 := rfl
@[simp] theorem aks {rows : Rows}  : gN rows .i9 = True := rfl
@[simp] theorem ae6  : bP .i9 = some [.i9] := rfl
@[simp] theorem ae7  : eA .i9 = some [.i9] := rfl
@[simp] theorem amF  : eV .nil = true := rfl
@[simp] theorem akt  : b5 .nil = true := rfl
@[simp] theorem amG  : aZ .nil = [] := rfl
@[simp] theorem amH {rows : Rows}  : gN rows .nil = True := rfl
@[simp] theorem ahE  : bP .nil = some [.nil] := rfl
@[simp] theorem ahF  : eA .nil = some [.nil] := rfl
@[simp] theorem apM {l : List (List PV)} : eV (.sl l) = true := rfl
@[simp] theorem amI {l : List (List PV)} : b5 (.sl l) = true := rfl
@[simp] theorem apN {l : List (List PV)} : aZ (.sl l) = [] := rfl
@[simp] theorem apO {rows : Rows} {l : List (List PV)} : gN rows (.sl l) = True := rfl
@[simp] theorem aku {l : List (List PV)} : bP (.sl l) = some [.sl l] := rfl
@[simp] theorem akv {l : List (List PV)} : eA (.sl l) = some [.sl l] := rfl
@[simp] theorem amJ {l : List (List PV)} : eV (.iS l) = true := rfl
@[simp] theorem akw {l : List (List PV)} : b5 (.iS l) = true := rfl
@[simp] theorem amK {l : List (List PV)} : aZ (.iS l) = [] := rfl
@[simp] theorem amL {rows : Rows} {l : List (List PV)} : gN rows (.iS l) = True := rfl
@[simp] theorem ahG {l : List (List PV)} : bP (.iS l) = some [.iS l] := rfl
@[simp] theorem ahH {l : List (List PV)} : eA (.iS l) = some [.iS l] := rfl
@[simp] theorem ack {l : List PV} : eV (.rd l) = true := rfl
@[simp] theorem XE {l : List PV} : b5 (.rd l) = true := rfl
@[simp] theorem acm {l : List PV} : aZ (.rd l) = [] := rfl
@[simp] theorem apP {rows : Rows} {l : List PV} : gN rows (.rd l) = True := rfl
@[simp] theorem akx {l : List PV} : bP (.rd l) = some [.rd l] := rfl
@[simp] theorem aky {l : List PV} : eA (.rd l) = some [.rd l] := rfl
@[simp] theorem apQ {f : FuncId} {l : List PV} : eV (.fn f l) = true := rfl
@[simp] theorem amM {f : FuncId} {l : List PV} : b5 (.fn f l) = true := rfl
@[simp] theorem apR {f : FuncId} {l : List PV} : aZ (.fn f l) = [] := rfl
@[simp] theorem apS {rows : Rows} {f : FuncId} {l : List PV} : gN rows (.fn f l) = True := rfl
@[simp] theorem akz {f : FuncId} {l : List PV} : bP (.fn f l) = some [.fn f l] := rfl
@[simp] theorem akA {f : FuncId} {l : List PV} : eA (.fn f l) = some [.fn f l] := rfl
@[simp] theorem apT {l : List PV} : eV (.ag l) = l.all b5 := rfl
@[simp] theorem amN {l : List PV} : eV (.eN l) = true := rfl
@[simp] theorem akB {l : List PV} : bP (.ag l) = some l := rfl
@[simp] theorem akC {l : List PV} : eA (.ag l) = some l := rfl
@[simp] theorem amO {id v o l : Nat} : aZ (.own id v o l) = [id] := rfl
@[simp] theorem amP {id v o l : Nat} : aZ (.ptr id v o l) = [id] := rfl
@[simp] theorem ahI {id v o l : Nat} : bP (.own id v o l) = some [.own id v o l] := rfl
@[simp] theorem ahJ {id v o l : Nat} : bP (.ptr id v o l) = some [.ptr id v o l] := rfl
def rowAt (o : Option Row) (ver : Nat) : Prop := ∃ r, o = some r ∧ r.ver = ver
@[simp] theorem ahK {r : Row} {ver : Nat} : rowAt (some r) ver = (r.ver = ver) := by simp [rowAt]
@[simp] theorem amQ {rows : Rows} {id v o l : Nat} : gN rows (.own id v o l) = rowAt (rows id) v := rfl
@[simp] theorem amR {rows : Rows} {id v o l : Nat} : gN rows (.ptr id v o l) = rowAt (rows id) v := rfl
@[simp] theorem akD {e l : List PV} {j : Nat} : iI [e] 0 j l = [e.take j ++ l ++ e.drop (j + l.length)] := by simp [iI]
@[simp] theorem akE {e : List PV} {n : Nat} : sU [e] 0 n = (n ≤ e.length) := by simp [sU]
@[simp] theorem akF {E : Env} {σ : PS} {t : Tmp} {rs : List ResultVar} {K : List PV → Prop} : nZ E σ (.tmp t :: rs) K = nZ E σ rs fun vs => K (σ.f t :: vs) := rfl
@[simp] theorem akG {E : Env} {σ : PS} {K : List PV → Prop} : nZ E σ [] K = K [] := rfl
@[simp] theorem ahL {E : Env} {σ : PS} {a : Tmp} {t : TypeId} {rs : List ResultVar} {K : List PV → Prop} : nZ E σ (.cell a t :: rs) K = jN E t σ.rows (σ.f a) fun v => nZ E σ rs fun vs => K (v :: vs) := by
 show (∃ v, qR E t σ.rows (σ.f a) v ∧ nZ E σ rs fun vs => K (v :: vs)) = _
 rw [← rP]; rfl
@[simp] theorem acn {E : Env} {ops : List Oper} {K : PS → Prop} {f : Nat → PV} {rows : Rows} {clk : Nat} : go (fJ E 0 ops K ⟨f, rows, clk⟩) = go (aN E ops clk 0 ops K ⟨f, rows, fun _ _ => False, fun _ _ => False⟩) := BI
theorem wrap_i64 {n : Int} (h1 : -9223372036854775808 ≤ n) (h2 : n < 9223372036854775808) : IntKind.i64.wrap n = n := by
 have e : IntKind.i64.wrap n = if n % 18446744073709551616 ≥ 9223372036854775808 then n % 18446744073709551616 - 18446744073709551616 else n % 18446744073709551616 := by
  simp [IntKind.wrap, IntKind.bits, IntKind.signed]
 rw [e]
 split <;> omega
theorem wrap_u64 {n : Int} (h1 : 0 ≤ n) (h2 : n < 18446744073709551616) : IntKind.u64.wrap n = n := by
 simp only [IntKind.wrap, IntKind.bits, IntKind.signed, Bool.false_and, Bool.false_eq_true, if_false]
 omega
theorem wrap_u32 {n : Int} (h1 : 0 ≤ n) (h2 : n < 4294967296) : IntKind.u32.wrap n = n := by
 simp only [IntKind.wrap, IntKind.bits, IntKind.signed, Bool.false_and, Bool.false_eq_true, if_false]
 omega
theorem wA : (∀ n : Int, -9223372036854775808 ≤ n → n < 9223372036854775808 → IntKind.i64.wrap n = n) ∧ (∀ n : Int, 0 ≤ n → n < 18446744073709551616 → IntKind.u64.wrap n = n) ∧ (∀ n : Int, 0 ≤ n → n < 4294967296 → IntKind.u32.wrap n = n) ∧
  (∀ a b : Int, 0 ≤ a → a.tdiv b = a / b) ∧ (∀ a b : Int, 0 ≤ a → a.tmod b = a % b) := ⟨fun _ => wrap_i64, fun _ => wrap_u64, fun _ => wrap_u32, fun _ _ h => Int.tdiv_eq_ediv_of_nonneg h, fun _ _ h => Int.tmod_eq_emod_of_nonneg h⟩
theorem gw : (∀ {c B : Prop}, c → aH c B = go B) ∧ (∀ n : Int, -9223372036854775808 ≤ n → n < 9223372036854775808 → IntKind.i64.wrap n = n) ∧ (∀ n : Int, 0 ≤ n → n < 18446744073709551616 → IntKind.u64.wrap n = n) ∧ (∀ n : Int, 0 ≤ n → n < 4294967296 → IntKind.u32.wrap n = n) ∧
  (∀ a b : Int, 0 ≤ a → a.tdiv b = a / b) ∧ (∀ a b : Int, 0 ≤ a → a.tmod b = a % b) := ⟨gA, wA⟩
theorem wrap_u8 {n : Int} (h1 : 0 ≤ n) (h2 : n < 256) : IntKind.u8.wrap n = n := by
 simp only [IntKind.wrap, IntKind.bits, IntKind.signed, Bool.false_and, Bool.false_eq_true, if_false]
 omega
theorem iJ {n : Int} : IntKind.u64.wrap n = n % 18446744073709551616 := by
 simp only [IntKind.wrap, IntKind.bits, IntKind.signed, Bool.false_and, Bool.false_eq_true, if_false]
 rfl
theorem wrap_u32' {n : Int} : IntKind.u32.wrap n = n % 4294967296 := by
 simp only [IntKind.wrap, IntKind.bits, IntKind.signed, Bool.false_and, Bool.false_eq_true, if_false]
 rfl
section
variable {E : Env} {n : Nat} {tl : Nat → Nat} {Q : PX → PS → Prop} {σ : PS}
theorem W.b9 {id : Nat} {ops : List Oper} (h : ∀ K : PS → Prop, (∀ σ, Q .normal σ → K σ) → go (aK E ops ops K σ)) : W E n tl (.region id ops.toArray false) Q σ := W.G3 h
theorem W.HS {id : Nat} {ops : List Oper} (h : ∀ K : PS → Prop, (∀ σ, Q .normal σ → K σ) → go (fJ E (tl id) ops K σ)) : W E n tl (.region id ops.toArray true) Q σ := W.VZ h
theorem W.dD {id : Nat} {ops : List Oper} {y : Code} (h : ∀ K : PS → Prop, (∀ σ, W E n tl y Q σ → K σ) → go (aK E ops ops K σ)) : W E n tl (.seq (.region id ops.toArray false) y) Q σ := W.LH h
theorem W.aco {id : Nat} {ops : List Oper} {y : Code} (h : ∀ K : PS → Prop, (∀ σ, W E n tl y Q σ → K σ) → go (fJ E (tl id) ops K σ)) : W E n tl (.seq (.region id ops.toArray true) y) Q σ := W.V0 h
end
section
variable {E : Env} {n : Nat} {tl : Nat → Nat} {Q : PX → PS → Prop} {σ : PS}
theorem W.bB {c : Code} (I : Nat → PS → Prop) (k : Nat) (h0 : ∃ σ0, Gh n σ σ0 ∧ I k σ0) (h1 : ∀ k σ, I k σ → W E n tl c (A9 (fun σ' => ∃ m σ'', Gh n σ' σ'' ∧ m < k ∧ I m σ'') Q) σ) : W E n tl (.loop c) Q σ := by
 obtain ⟨σ0, hg, h0⟩ := h0
 refine W.ghost hg ?_
 refine W.loop (fun k σ => ∃ σ', Gh n σ σ' ∧ I k σ') k ⟨σ0, fun _ _ _ _ _ h => h, h0⟩ ?_
 rintro k σ ⟨σ', hg, hI⟩
 refine W.ghost hg (W.mono (h1 k σ' hI) fun x τ hx => ?_)
 cases x with
 | normal => obtain ⟨m, σ'', h2, h3, h4⟩ := hx; exact ⟨m, h3, σ'', h2, h4⟩
 | exit id => exact hx
 | ret => exact hx
theorem Gh.refl : Gh n σ σ := fun _ _ _ _ _ h => h
theorem W.XF {c : Operand} {t e : Code} (b : Prop) [Decidable b] (hc : aQ σ.f c = .bool (decide b)) (h1 : b → W E n tl t Q σ) (h2 : ¬ b → W E n tl e Q σ) : W E n tl (.cond c t e) Q σ := W.cond ⟨_, hc, fun h => h1 (of_decide_eq_true h), fun h => h2 (of_decide_eq_false h)⟩
theorem W.ghf {f : Nat → PV} {rows : Rows} {clk : Nat} {c : Code} (l : List (Nat × PV)) (hl : ∀ p ∈ l, f p.1 = p.2) (h : W E n tl c Q ⟨fa l, rows, clk⟩) : W E n tl c Q ⟨f, rows, clk⟩ := by
 have := aC (f := f) (rows := rows) (clk := clk) n (l.map (·.1))
 have e : ((l.map (·.1)).map fun i => (i, f i)) = l := by
  rw [List.map_map]
  conv => rhs; rw [← List.map_id l]
  exact List.map_congr_left fun p hp => by simp [hl p hp]
 rw [e] at this
 exact W.ghost this h
theorem Gh.fr {f : Nat → PV} {rows : Rows} {clk : Nat} (l : List (Nat × PV)) (hl : ∀ p ∈ l, f p.1 = p.2) : Gh n ⟨f, rows, clk⟩ ⟨fa l, rows, clk⟩ := by
 have := aC (f := f) (rows := rows) (clk := clk) n (l.map (·.1))
 have e : ((l.map (·.1)).map fun i => (i, f i)) = l := by
  rw [List.map_map]
  conv => rhs; rw [← List.map_id l]
  exact List.map_congr_left fun p hp => by simp [hl p hp]
 rw [e] at this
 exact this
end
theorem aB {E : Env} {B7 : FuncId} {fn : Func} {code : Code} (tl : Nat → Nat) {args : List PV} {r : PV} (l : List (Nat × PV)) (h1 : E.P.funcs[B7]? = some fn) (h2 : fn.body = some code) (h3 : (fn.name == "runtime.NumGoroutine") = false)
  (fF : eB E fn.ntmps tl code = true) (fI : args.length ≤ fn.ntmps) (hl : ∀ p ∈ l, args.getD p.1 .undef = p.2) (h : W E fn.ntmps tl code (abV E fn.results.toList r) ⟨fa l, fun _ => none, 0⟩) : aL E.P B7 args r :=
 V1 tl h1 h2 h3 fF fI (W.ghf l (by simpa using hl) h)
end Pm
namespace Pm
@[simp] theorem apU {a : Int} : Int.fdiv a 4294967296 = a / 4294967296 := Int.fdiv_eq_ediv_of_nonneg a (by decide)
@[simp] theorem apV {a : Int} : Int.fdiv a 9223372036854775808 = a / 9223372036854775808 := Int.fdiv_eq_ediv_of_nonneg a (by decide)
attribute [simp] Go.IntKind.bits
end Pm
namespace Pm
open Go Go.RowKit
section
variable {E : Env} {n : Nat} {tl : Nat → Nat} {Q : PX → PS → Prop} {σ : PS}
theorem W.fQ {x y : Code} (J : PS → Prop) (h : W E n tl x (A9 (fun σ => ∃ σ', Gh n σ σ' ∧ J σ') Q) σ) (hy : ∀ σ, J σ → W E n tl y Q σ) : W E n tl (.seq x y) Q σ :=
 W.seq (W.mono h fun x σ hx => by
  cases x with
  | normal => obtain ⟨σ', hg, hJ⟩ := hx; exact W.ghost hg (hy σ' hJ)
  | exit id => exact hx
  | ret => exact hx)
def L7 (J : PS → Prop) (Q : PX → PS → Prop) : PX → PS → Prop
 | .normal, σ => J σ
 | .exit id, σ => Q (.exit id) σ
 | .ret, σ => Q .ret σ
theorem W.eY {id : Nat} {x y : Code} (J : PS → Prop) (h : W E n tl x (BA id (L7 (fun σ => ∃ σ', Gh n σ σ' ∧ J σ') Q)) σ) (hy : ∀ σ, J σ → W E n tl y Q σ) : W E n tl (.seq (.block id x) y) Q σ :=
 W.seq (W.block (W.mono h fun x σ hx => by
  cases x with
  | normal => obtain ⟨σ', hg, hJ⟩ := hx; exact W.ghost hg (hy σ' hJ)
  | exit j =>
   simp only [BA] at hx ⊢
   split
   ·rename_i hj; rw [if_pos hj] at hx; obtain ⟨σ', hg, hJ⟩ := hx; exact W.ghost hg (hy σ' hJ)
   ·rename_i hj; rw [if_neg hj] at hx; exact hx
  | ret => exact hx))
theorem W.fR {id : Nat} {ops : List Oper} {y : Code} (J : PS → Prop) (h : ∀ K : PS → Prop, (∀ σ σ', Gh n σ σ' → J σ' → K σ) → go (aK E ops ops K σ)) (hy : ∀ σ, J σ → W E n tl y Q σ) : W E n tl (.seq (.region id ops.toArray false) y) Q σ :=
 W.dD fun K hK => h K fun σ _ hg hJ => hK σ (W.ghost hg (hy _ hJ))
@[simp] theorem ae8 {J : PS → Prop} : L7 J Q .normal σ = J σ := rfl
@[simp] theorem amS {J : PS → Prop} : L7 J Q .ret σ = Q .ret σ := rfl
@[simp] theorem akH {J : PS → Prop} {id : Nat} : L7 J Q (.exit id) σ = Q (.exit id) σ := rfl
@[simp] theorem ae9 {J : PS → Prop} : A9 J Q .normal σ = J σ := rfl
@[simp] theorem amT {J : PS → Prop} : A9 J Q .ret σ = Q .ret σ := rfl
@[simp] theorem akI {J : PS → Prop} {id : Nat} : A9 J Q (.exit id) σ = Q (.exit id) σ := rfl
@[simp] theorem afa {id : Nat} : BA id Q .normal σ = Q .normal σ := rfl
@[simp] theorem amU {id : Nat} : BA id Q .ret σ = Q .ret σ := rfl
@[simp] theorem akJ {id j : Nat} : BA id Q (.exit j) σ = if j = id then Q .normal σ else Q (.exit j) σ := rfl
theorem pX : (∀ (Q : PX → PS → Prop) (σ : PS) (id j : Nat), BA id Q (.exit j) σ = if j = id then Q .normal σ else Q (.exit j) σ) ∧ (∀ (Q : PX → PS → Prop) (σ : PS) (id : Nat), BA id Q .normal σ = Q .normal σ) ∧ (∀ (Q : PX → PS → Prop) (σ : PS) (id : Nat), BA id Q .ret σ = Q .ret σ) ∧
  (∀ (J : PS → Prop) (Q : PX → PS → Prop) (σ : PS) (id : Nat), A9 J Q (.exit id) σ = Q (.exit id) σ) ∧ (∀ (J : PS → Prop) (Q : PX → PS → Prop) (σ : PS), A9 J Q .normal σ = J σ) ∧ (∀ (J : PS → Prop) (Q : PX → PS → Prop) (σ : PS), A9 J Q .ret σ = Q .ret σ) ∧
  (∀ (J : PS → Prop) (Q : PX → PS → Prop) (σ : PS) (id : Nat), L7 J Q (.exit id) σ = Q (.exit id) σ) ∧ (∀ (J : PS → Prop) (Q : PX → PS → Prop) (σ : PS), L7 J Q .normal σ = J σ) ∧ (∀ (J : PS → Prop) (Q : PX → PS → Prop) (σ : PS), L7 J Q .ret σ = Q .ret σ) :=
 ⟨fun _ _ _ _ => rfl, fun _ _ _ => rfl, fun _ _ _ => rfl, fun _ _ _ _ => rfl, fun _ _ _ => rfl, fun _ _ _ => rfl, fun _ _ _ _ => rfl, fun _ _ _ => rfl, fun _ _ _ => rfl⟩
end
end Pm
namespace Pm
open Go
theorem amV {P : Program} {g : FuncId} {fC : List PV} {rows : Rows} {clk : Nat} {K : PV → Rows → Nat → Prop} {R : PV → Rows → Nat → Prop} (h : RG P g fC rows clk R) (hK : ∀ r rows' jK, R r rows' jK → go (K r rows' jK)) : vM P g fC rows clk K := ⟨R, h, hK⟩
theorem aA {P : Program} {g : FuncId} {args : List PV} {K : PV → Prop} {v : PV} (h : aL P g args v) (hK : go (K v)) : sR P g args K := ⟨v, h, hK⟩
theorem W.XG {E : Env} {n : Nat} {tl : Nat → Nat} {c : Code} {Q : PX → PS → Prop} {f : Nat → PV} {rows : Rows} {clk : Nat} (l : List Nat) (h : ∀ K : PS → Prop, (∀ σ, W E n tl c Q σ → K σ) → K ⟨fa (l.map fun i => (i, f i)), rows, clk⟩) : W E n tl c Q ⟨f, rows, clk⟩ := W.live l (h _ fun _ h => h)
theorem W.lv {E : Env} {n : Nat} {tl : Nat → Nat} {c : Code} {Q : PX → PS → Prop} {f : Nat → PV} {rows : Rows} {clk : Nat} {K0 : PS → Prop} (l : List Nat) (hK : ∀ σ, W E n tl c Q σ → K0 σ) (h : ∀ K : PS → Prop, (∀ σ, W E n tl c Q σ → K σ) → K ⟨fa (l.map fun i => (i, f i)), rows, clk⟩) : K0 ⟨f, rows, clk⟩ := hK _ (W.XG l h)
inductive Bx (P : PS → Prop) : Type
  | mk
def aW {P : PS → Prop} (_ : Bx P) (σ : PS) : Prop := P σ
theorem W.lw {E : Env} {n : Nat} {tl : Nat → Nat} {c : Code} {Q : PX → PS → Prop} {f : Nat → PV} {rows : Rows} {clk : Nat} {K0 : PS → Prop} (l : List Nat) (hK : ∀ σ, W E n tl c Q σ → K0 σ) (h : aW (Bx.mk (P := W E n tl c Q)) ⟨fa (l.map fun i => (i, f i)), rows, clk⟩) : K0 ⟨f, rows, clk⟩ := hK _ (W.XG l fun _ q => q _ h)
theorem W.lx {E : Env} {n : Nat} {tl : Nat → Nat} {c : Code} {Q : PX → PS → Prop} {f : Nat → PV} {rows : Rows} {clk : Nat} (l : List Nat) (h : aW (Bx.mk (P := W E n tl c Q)) ⟨fa (l.map fun i => (i, f i)), rows, clk⟩) : aW (Bx.mk (P := W E n tl c Q)) ⟨f, rows, clk⟩ := W.XG l fun _ q => q _ h
theorem W.sr {E : Env} {n : Nat} {tl : Nat → Nat} {Q : PX → PS → Prop} {σ : PS} {id : Nat} {ops : List Oper} {y : Code} (h : go (aK E ops ops (aW (Bx.mk (P := W E n tl y Q))) σ)) : W E n tl (.seq (.region id ops.toArray false) y) Q σ := by
  refine W.seq ?_
  intro fF w0 S0 G a w Q' hR hQ
  simp only [eB, oT, Bool.and_eq_true] at fF
  refine wp_region_list (fO (fun σ' a' w' hk jZ => hQ .normal σ' a' w' hk jZ) _ σ a w (fun o ho t ht => ?_) h hR)
  have := Array.all_eq_true_iff_forall_mem.1 fF.1 o (by simpa using ho)
  simpa [ht] using this
theorem W.sd {E : Env} {n : Nat} {tl : Nat → Nat} {Q : PX → PS → Prop} {σ : PS} {id : Nat} {ops : List Oper} {y : Code} (h : go (fJ E (tl id) ops (aW (Bx.mk (P := W E n tl y Q))) σ)) : W E n tl (.seq (.region id ops.toArray true) y) Q σ := by
  refine W.seq ?_
  intro fF w0 S0 G a w Q' hR hQ
  exact qY (by simpa [eB] using fF) h hR fun σ' a' w' hk jZ => hQ .normal σ' a' w' hk jZ
end Pm
namespace Pm
open Go Go.RowKit
def Wk (p q : PV) : Prop := q = p ∨ (p = .nil ∧ q = .sl [])
theorem Wk.rep {c : Cx} {p q : PV} {v : Value} (h : Wk p q) (hr : aP c p v) : aP c q v := by
 rcases h with rfl | ⟨rfl, rfl⟩
 ·exact hr
 ·simp only [aP, cL] at hr ⊢
  exact ⟨none, 0, by simpa using hr, by simp, by simp, .inl trivial⟩
theorem a7.flat {α β : Type} {R : α → β → Prop} : ∀ {l : List (List α)} {m : List (List β)}, a7 (a7 R) l m → a7 R l.flatten m.flatten
 | [], [], _ => trivial
 | a :: l, b :: m, h => by
  obtain ⟨h1, h2⟩ := h
  have ih := a7.flat h2
  clear h2
  induction a generalizing b with
  | nil => cases b with
   | nil => exact ih
   | cons => exact h1.elim
  | cons x a iha => cases b with
   | nil => exact h1.elim
   | cons y b => exact ⟨h1.1, iha b h1.2⟩
theorem ahM {n id ver e m clk : Nat} {f : Nat → PV} {rows : Rows} {els DU : List (List PV)} (hr : rows id = some ⟨ver, e, m, els⟩) (hw : a7 (a7 fun q p => Wk p q) DU els) : Gh n ⟨f, rows, clk⟩ ⟨f, dE rows id (some ⟨ver, e, m, DU⟩), clk⟩ := by
 rintro w0 S0 G a w ⟨⟨c, rfl, sX, eT, hI, hf, hG⟩, h7, h8⟩
 have jG : c.rows id = some ⟨ver, e, m, els⟩ := by rw [sX]; exact hr
 obtain ⟨⟨xs, g1, g2, g3⟩, g4, g5, g6⟩ := hI.row id _ jG
 have hlen : DU.length = els.length := hw.length
 obtain ⟨uG, hA⟩ := hI.dE (w' := c.w) (r' := ⟨ver, e, m, DU⟩) (xs := xs) jG (World.grownBy.refl _ _) (by simp only [hlen]; exact g1)
  (by
   have h1 := a7.flat hw
   have : ∀ {l : List PV} {k : List PV} {vs : List Value}, a7 (fun q p => Wk p q) l k → a7 (aP c) k vs → a7 (aP c) l vs := by
    intro l
    induction l with
    | nil => intro k vs h h'; cases k with
     | nil => exact h'
     | cons => exact h.elim
    | cons x l ih => intro k vs h h'; cases k with
     | nil => exact h.elim
     | cons y k => cases vs with
      | nil => exact h'.elim
      | cons v vs => exact ⟨h.1.rep h'.1, ih h.2 h'.2⟩
   exact this h1 g2) g3 (fun el m6 => by
   obtain ⟨k, hk⟩ := List.getElem?_of_mem m6
   obtain ⟨b, hb, h1⟩ := hw.get hk
   rw [h1.length]
   exact g4 b (List.mem_of_getElem? hb)) rfl rfl hlen
 refine ⟨⟨{ c with rows := dE c.rows id (some ⟨ver, e, m, DU⟩) }, rfl, by simp [sX], eT, uG, fun s => aI.rG hA _ _ (hf s), fun p hp => aI.rG hA _ _ (hG p hp)⟩, h7, h8⟩
theorem ahN {n s id e m clk : Nat} {f : Nat → PV} {rows : Rows} (hs : f s = .nil) (hm : 0 < m) : Gh n ⟨f, rows, clk⟩ ⟨put f (some s) (.own id clk 0 0), dE rows id (some ⟨clk, e, m, []⟩), clk + 1⟩ := by
 rintro w0 S0 G a w ⟨⟨c, rfl, sX, eT, hI, hf, hG⟩, h7, h8⟩
 obtain ⟨uG, hA⟩ := hI.set (w' := c.w) (ob := none) (id := id) (r' := ⟨clk, e, m, []⟩) (v' := .slice none 0 0) (xs := []) (World.grownBy.refl _ _) (by simp) ⟨by simp, .inl ⟨rfl, rfl⟩⟩ (by simp [a7]) (by simp) (by simp) hm (by simp [Value.ownBlock]) (fun hu => Nat.lt_irrefl _ (eT _ hu))
 refine ⟨⟨{ c with β := dE c.β id (.slice none 0 0), rows := dE c.rows id (some ⟨clk, e, m, []⟩), used := fun v => v = clk ∨ c.used v }, rfl, by simp [sX], fun v hv => by
  show v < clk + 1
  rcases hv with rfl | hv
  ·omega
  ·have : v < clk := eT v hv
   omega, uG, fun t => ?_, fun p hp => aI.rG hA _ _ (hG p hp)⟩, h7, h8⟩
 simp only [put]
 split
 ·rename_i ht
  subst ht
  have h1 := hf t
  simp only at h1
  rw [hs] at h1
  simp only [aI, aP, cL] at h1
  simp only [aI, aP]
  refine ⟨.inl (by first | rfl | trivial), fun r hr hv => ?_⟩
  simp only [fM, Option.some.injEq] at hr
  subst hr
  exact ⟨by simp, .inl ⟨trivial, none, 0, 0, by simp [dE], h1⟩⟩
 ·exact aI.rG hA _ _ (hf t)
theorem HT {α β : Type} {R : α → β → Prop} {x : α} {y : β} (h : R x y) : ∀ k : Nat, a7 R (List.replicate k x) (List.replicate k y)
 | 0 => trivial
 | k + 1 => ⟨h, HT h k⟩
section
variable {E : Env} {n : Nat} {tl : Nat → Nat} {Q : PX → PS → Prop} {c : Code} {f : Nat → PV} {rows : Rows} {clk : Nat}
theorem W.row {id ver e m : Nat} {els : List (List PV)} (DU : List (List PV)) (hr : rows id = some ⟨ver, e, m, els⟩) (hw : a7 (a7 fun q p => Wk p q) DU els) (h : W E n tl c Q ⟨f, dE rows id (some ⟨ver, e, m, DU⟩), clk⟩) : W E n tl c Q ⟨f, rows, clk⟩ := W.ghost (ahM hr hw) h
theorem W.nil (s id e m : Nat) (hs : f s = .nil) (hm : 0 < m) (h : ∀ K : PS → Prop, (∀ σ, W E n tl c Q σ → K σ) → K ⟨put f (some s) (.own id clk 0 0), dE rows id (some ⟨clk, e, m, []⟩), clk + 1⟩) : W E n tl c Q ⟨f, rows, clk⟩ := W.ghost (ahN hs hm) (h _ fun _ h => h)
end
def fzP (o : Option Row) (ver i j : Nat) : PV :=
 match o with
 | some r => if r.ver = ver then .rd ((r.els.getD i []).drop j) else .undef
 | none => .undef
@[simp] theorem arU {rows : Rows} {id ver i j : Nat} : fz rows (.ptr id ver i j) = fzP (rows id) ver i j := rfl
@[simp] theorem arV {rows : Rows} {id ver i j : Nat} : pz rows (.ptr id ver i j) = fzP (rows id) ver i j := rfl
@[simp] theorem apW {ver e n : Nat} {el : List PV} : fzP (some ⟨ver, e, n, [el]⟩) ver 0 0 = .rd el := by simp [fzP]
@[simp] theorem amW {id ver i j : Nat} : dC (.ptr id ver i j) = [id] := rfl
@[simp] theorem afb {ver e n : Nat} {el : List PV} : cO (some ⟨ver, e, n, [el]⟩) = ∀ p ∈ el, b5 p = true := by simp [cO]
end Pm
namespace Pm
open Go
theorem eD {E : Env} {m : Nat} {ops : List Oper} {K : PS → Prop} {f : Nat → PV} {rows : Rows} {clk : Nat} : go (fJ E (m + 1) ops K ⟨f, rows, clk⟩) = go (aN E ops clk 0 (ops.take (ops.length - (m + 1))) (aK E ops (ops.drop (ops.length - (m + 1))) K) ⟨f, rows, fun _ _ => False, fun _ _ => False⟩) := by
 simp [fJ]
end Pm
namespace Pm
open Go Go.RowKit
def GC (rows : Rows) (id : Nat) : PV → PV
 | .own i ver off len => if i = id then fz rows (.own i ver off len) else .own i ver off len
 | .ptr i ver a j => if i = id then fz rows (.ptr i ver a j) else .ptr i ver a j
 | p => p
def EG (rows : Rows) (id : Nat) : PV → PV
 | .ag l => .ag (l.map (GC rows id))
 | p => GC rows id p
theorem EH {w0 : World} {S0 : dB} {c : Cx} (hI : Inv w0 S0 c) {id : Nat} (hp : ∀ r, c.rows id = some r → ∀ e ∈ r.els, ∀ p ∈ e, b5 p = true) {p : PV} {v : Value} (h : aP c p v) : aP (AX c [id]) (GC c.rows id p) v := by
 have uF : ∀ i ∈ [id], ∀ r, c.rows i = some r → ∀ e ∈ r.els, ∀ p ∈ e, b5 p = true := by intro i hi; simp at hi; subst hi; exact hp
 have key : ∀ q : PV, aP c q v → (∀ i ∈ aZ q, i ∈ [id]) → (fz c.rows q = .undef ∨ b5 (fz c.rows q) = true) → aP (AX c [id]) (fz c.rows q) v := by
  intro q hq hi ho
  rcases ho with ho | ho
  ·rw [ho]; simp [aP]
  ·exact aP.iT (DR hI uF hq hi ho)
 cases p with
 | own i ver off len =>
  simp only [GC]
  split
  ·rename_i hi
   subst hi
   refine key _ h (by simp [aZ]) ?_
   simp only [fz]
   cases c.rows i with
   | none => exact .inl rfl
   | some r =>
    simp only
    split
    ·exact .inr rfl
    ·exact .inl rfl
  ·exact aP.rG (kE c [id]) _ _ h
 | ptr i ver a j =>
  simp only [GC]
  split
  ·rename_i hi
   subst hi
   refine key _ h (by simp [aZ]) ?_
   simp only [fz]
   cases c.rows i with
   | none => exact .inl rfl
   | some r =>
    simp only
    split
    ·exact .inr rfl
    ·exact .inl rfl
  ·exact aP.rG (kE c [id]) _ _ h
 | _ => exact aP.rG (kE c [id]) _ _ h
theorem OY {w0 : World} {S0 : dB} {c : Cx} (hI : Inv w0 S0 c) {id : Nat} (hp : ∀ r, c.rows id = some r → ∀ e ∈ r.els, ∀ p ∈ e, b5 p = true) {p : PV} {v : Value} (h : aI c p v) : aI (AX c [id]) (EG c.rows id p) v := by
 cases p with
 | ag l =>
  obtain ⟨vs, h1, h2⟩ := h
  refine ⟨vs, h1, a7.cY (by simp [h2.length]) fun k a b ha hb => ?_⟩
  simp at ha
  obtain ⟨q, hq, rfl⟩ := ha
  obtain ⟨b', wV, hr⟩ := h2.get hq
  rw [hb] at wV; cases wV
  exact EH hI hp hr
 | _ =>
  simp only [aI] at h
  have := EH hI hp h
  simp only [EG]
  exact (by
   first
    | (simp only [GC, aI] at this ⊢; exact this)
    | (simp only [GC] at this ⊢
       split
       · rename_i hi; rw [if_pos hi] at this; simp only [fz] at this ⊢; revert this; split <;> (try split) <;> exact fun h => h
       · rename_i hi; rw [if_neg hi] at this; exact this))
theorem CG {rows : Rows} {id : Nat} : EG rows id .undef = .undef := rfl
theorem XH {l : List (Nat × PV)} {g : PV → PV} (hg : g .undef = .undef) : (fun s => g (fa l s)) = fa (l.map fun p => (p.1, g p.2)) := by
 funext s
 induction l with
 | nil => exact hg
 | cons p l ih =>
  obtain ⟨i, v⟩ := p
  simp only [fa, List.map_cons]
  split
  ·rfl
  ·exact ih
theorem SI {n clk : Nat} {l : List (Nat × PV)} {rows : Rows} (id : Nat) (hp : cO (rows id)) : Gh n ⟨fa l, rows, clk⟩ ⟨fa (l.map fun p => (p.1, EG rows id p.2)), B3 rows [id], clk⟩ := by
 rintro w0 S0 G a w ⟨⟨c, rfl, sX, eT, hI, hf, hG⟩, h7, h8⟩
 have XI : c.rows = rows := sX
 subst XI
 refine ⟨⟨AX c [id], rfl, rfl, eT, hI.freeze [id], fun s => ?_, fun p hp => aI.rG (kE c [id]) _ _ (hG p hp)⟩, h7, h8⟩
 rw [← XH (g := EG c.rows id) CG]
 exact OY hI hp (hf s)
theorem W.freeze {E : Env} {n : Nat} {tl : Nat → Nat} {Q : PX → PS → Prop} {c : Code} {l : List (Nat × PV)} {rows : Rows} {clk : Nat} (id : Nat) (hp : cO (rows id)) (h : ∀ K : PS → Prop, (∀ σ, W E n tl c Q σ → K σ) → K ⟨fa (l.map fun p => (p.1, EG rows id p.2)), B3 rows [id], clk⟩) : W E n tl c Q ⟨fa l, rows, clk⟩ := W.ghost (SI id hp) (h _ fun _ h => h)
@[simp] theorem apX {rows : Rows} {id i ver off len : Nat} : EG rows id (.own i ver off len) = if i = id then fzR (rows i) ver off len else .own i ver off len := rfl
@[simp] theorem apY {rows : Rows} {id i ver a j : Nat} : EG rows id (.ptr i ver a j) = if i = id then fzP (rows i) ver a j else .ptr i ver a j := rfl
@[simp] theorem apZ {α : Type} {g : α → List PV} {rows : Rows} {id : Nat} {l : List α} : EG rows id (aJ g l) = aJ g l := rfl
@[simp] theorem ap0 {rows : Rows} {id : Nat} {k : IntKind} {n : Int} : EG rows id (.int k n) = .int k n := rfl
@[simp] theorem amX {rows : Rows} {id : Nat} {b : Bool} : EG rows id (.bool b) = .bool b := rfl
@[simp] theorem ap1 {rows : Rows} {id : Nat} : EG rows id .nil = .nil := rfl
@[simp] theorem arW {rows : Rows} {id : Nat} {l : List (List PV)} : EG rows id (.sl l) = .sl l := rfl
@[simp] theorem ap2 {rows : Rows} {id : Nat} {l : List (List PV)} : EG rows id (.iS l) = .iS l := rfl
@[simp] theorem arX {rows : Rows} {id : Nat} {l : List PV} : EG rows id (.ag l) = .ag (l.map (GC rows id)) := rfl
@[simp] theorem ap3 {rows : Rows} {id : Nat} {k : IntKind} {n : Int} : GC rows id (.int k n) = .int k n := rfl
@[simp] theorem amY {rows : Rows} {id : Nat} {b : Bool} : GC rows id (.bool b) = .bool b := rfl
@[simp] theorem ap4 {rows : Rows} {id : Nat} : GC rows id .nil = .nil := rfl
@[simp] theorem ap5 {α : Type} {g : α → List PV} {rows : Rows} {id : Nat} {l : List α} : GC rows id (aJ g l) = aJ g l := rfl
theorem acq {n s clk : Nat} {f : Nat → PV} {rows : Rows} (q : PV) (hs : f s = .nil) (hq : q = .sl []) : Gh n ⟨f, rows, clk⟩ ⟨put f (some s) q, rows, clk⟩ := by
 rintro w0 S0 G a w ⟨⟨c, rfl, sX, eT, hI, hf, hG⟩, h7, h8⟩
 refine ⟨⟨c, rfl, sX, eT, hI, fun t => ?_, hG⟩, h7, h8⟩
 simp only [put]
 split
 ·rename_i ht
  subst ht
  have h1 := hf t
  simp only at h1
  rw [hs] at h1
  subst hq
  simp only [aI] at h1 ⊢
  exact Wk.rep (.inr ⟨rfl, rfl⟩) h1
 ·exact hf t
theorem W.SJ {E : Env} {n : Nat} {tl : Nat → Nat} {Q : PX → PS → Prop} {c : Code} {f : Nat → PV} {rows : Rows} {clk : Nat} (s : Nat) (q : PV) (hs : f s = .nil) (hq : q = .sl []) (h : ∀ K : PS → Prop, (∀ σ, W E n tl c Q σ → K σ) → K ⟨put f (some s) q, rows, clk⟩) : W E n tl c Q ⟨f, rows, clk⟩ := W.ghost (acq q hs hq) (h _ fun _ h => h)
theorem acr {c : Cx} {l : List (List PV)} {v : Value} (hr : aP c (.iS l) v) : aP c (.sl l) v := by
 simp only [aP, cL] at hr ⊢
 obtain ⟨a, h1, h2, h3⟩ := hr
 exact ⟨a, l.length, h1, Nat.le_refl _, h2, h3⟩
theorem acs {n s clk : Nat} {f : Nat → PV} {rows : Rows} (l : List (List PV)) (q : PV) (hs : f s = .iS l) (hq : q = .sl l) : Gh n ⟨f, rows, clk⟩ ⟨put f (some s) q, rows, clk⟩ := by
 rintro w0 S0 G a w ⟨⟨c, rfl, sX, eT, hI, hf, hG⟩, h7, h8⟩
 refine ⟨⟨c, rfl, sX, eT, hI, fun t => ?_, hG⟩, h7, h8⟩
 simp only [put]
 split
 ·rename_i ht
  subst ht
  have h1 := hf t
  simp only at h1
  rw [hs] at h1
  subst hq
  simp only [aI] at h1 ⊢
  exact acr h1
 ·exact hf t
theorem W.arY {E : Env} {n : Nat} {tl : Nat → Nat} {Q : PX → PS → Prop} {c : Code} {f : Nat → PV} {rows : Rows} {clk : Nat} (s : Nat) (l : List (List PV)) (q : PV) (hs : f s = .iS l) (hq : q = .sl l) (h : ∀ K : PS → Prop, (∀ σ, W E n tl c Q σ → K σ) → K ⟨put f (some s) q, rows, clk⟩) : W E n tl c Q ⟨f, rows, clk⟩ := W.ghost (acs l q hs hq) (h _ fun _ h => h)
def yZ (rows : Rows) (id : Nat) : Option Row → Option Row
 | some r => some { r with els := r.els.map fun e => e.map (GC rows id) }
 | none => none
def y3 (rows : Rows) (id : Nat) : Rows := fun j => if j = id then none else yZ rows id (rows j)
@[simp] theorem ap6 {rows : Rows} {id j : Nat} : y3 rows id j = if j = id then none else yZ rows id (rows j) := rfl
@[simp] theorem afc {rows : Rows} {id v e n : Nat} {els : List (List PV)} : yZ rows id (some ⟨v, e, n, els⟩) = some ⟨v, e, n, els.map fun e => e.map (GC rows id)⟩ := rfl
@[simp] theorem afd {rows : Rows} {id : Nat} : yZ rows id none = none := rfl
@[simp] theorem ap7 {rows : Rows} {id i ver off len : Nat} : GC rows id (.own i ver off len) = if i = id then fzR (rows i) ver off len else .own i ver off len := rfl
@[simp] theorem ap8 {rows : Rows} {id i ver a j : Nat} : GC rows id (.ptr i ver a j) = if i = id then fzP (rows i) ver a j else .ptr i ver a j := rfl
theorem L8 {n clk : Nat} {l : List (Nat × PV)} {rows : Rows} (id : Nat) (hp : cO (rows id)) : Gh n ⟨fa l, rows, clk⟩ ⟨fa (l.map fun p => (p.1, EG rows id p.2)), y3 rows id, clk⟩ := by
 rintro w0 S0 G a w ⟨⟨c, rfl, sX, eT, hI, hf, hG⟩, h7, h8⟩
 have XI : c.rows = rows := sX
 subst XI
 have GR := hI.freeze [id]
 have live : ∀ {j : Nat} {r' : Row}, y3 c.rows id j = some r' → j ≠ id ∧ ∃ r, c.rows j = some r ∧ r' = { r with els := r.els.map fun e => e.map (GC c.rows id) } := by
  intro j r' h
  simp only [y3] at h
  split at h
  ·cases h
  ·rename_i hj
   cases hr : c.rows j with
   | none => rw [hr] at h; cases h
   | some r => rw [hr] at h; simp only [yZ, Option.some.injEq] at h; exact ⟨hj, r, rfl, h.symm⟩
 have hA : rF (AX c [id]) { AX c [id] with rows := y3 c.rows id } := by
  refine ⟨fun _ _ h => h, fun _ _ _ => rfl, fun _ h => h, fun j r' h => ?_⟩
  obtain ⟨hj, r, hr, rfl⟩ := live h
  exact .inr ⟨r, by simp [AX, B3, hj, hr], rfl, rfl, by simp, rfl⟩
 have hI2 : Inv w0 S0 { AX c [id] with rows := y3 c.rows id } := by
  refine ⟨GR.below, GR.ext, GR.new, GR.lt0, fun j r' h => ?_, fun j r' h => ?_, fun i j r s g hr hs => ?_⟩
  ·obtain ⟨hj, r, hr, rfl⟩ := live h
   exact hI.clock j r hr
  ·obtain ⟨hj, r, hr, rfl⟩ := live h
   obtain ⟨⟨xs, g1, g2, g3⟩, g4, g5, g6⟩ := hI.row j r hr
   obtain ⟨_, _, f5, _⟩ := GR.row j r (by simp [AX, B3, hj, hr])
   refine ⟨⟨xs, by rw [List.length_map]; exact g1, ?_, g3⟩, fun e he => ?_, f5, g6⟩
   ·show a7 _ (List.flatten (r.els.map fun e => e.map (GC c.rows id))) xs
    rw [← List.map_flatten]
    refine a7.cY (by rw [List.length_map]; exact g2.length) fun k p u uF hu => ?_
    rw [List.getElem?_map] at uF
    obtain ⟨q, hq, rfl⟩ := Option.map_eq_some_iff.1 uF
    obtain ⟨u', RD, jG⟩ := g2.get hq
    rw [hu] at RD; cases RD
    exact aP.rG hA _ _ (EH hI hp jG)
   ·simp only [List.mem_map] at he
    obtain ⟨e', sJ, rfl⟩ := he
    simpa using g4 e' sJ
  ·obtain ⟨hi, r1, BJ, rfl⟩ := live hr
   obtain ⟨hj, r2, cT, rfl⟩ := live hs
   exact hI.apart i j r1 r2 g BJ cT
 refine ⟨⟨{ AX c [id] with rows := y3 c.rows id }, rfl, rfl, eT, hI2, fun s => ?_, fun p hp => aI.rG hA _ _ (aI.rG (kE c [id]) _ _ (hG p hp))⟩, h7, h8⟩
 show aI _ (fa (l.map fun p => (p.1, EG c.rows id p.2)) s) _
 rw [← XH (g := EG c.rows id) CG]
 exact aI.rG hA _ _ (OY hI hp (hf s))
theorem W.EI {E : Env} {n : Nat} {tl : Nat → Nat} {Q : PX → PS → Prop} {c : Code} {l : List (Nat × PV)} {rows : Rows} {clk : Nat} (id : Nat) (hp : cO (rows id)) (h : ∀ K : PS → Prop, (∀ σ, W E n tl c Q σ → K σ) → K ⟨fa (l.map fun p => (p.1, EG rows id p.2)), y3 rows id, clk⟩) : W E n tl c Q ⟨fa l, rows, clk⟩ := W.ghost (L8 id hp) (h _ fun _ h => h)
end Pm
