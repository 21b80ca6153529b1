import Derived.Test.YtbbjgncblhfegaaGreatFac
set_option linter.unusedSimpArgs false
set_option linter.unusedVariables false
namespace Pm
open Go Go.RowKit
def emap {α : Type} (g : α → List PV) (l : List α) : List (List PV) := l.map g
def aJ {α : Type} (g : α → List PV) (l : List α) : PV := .sl (emap g l)
def nth {α : Type} [Inhabited α] (l : List α) (i : Nat) : α := l[i]?.getD default
def Enc {α : Type} (g : α → List PV) (n : Nat) : Prop := ∀ x, (g x).length = n
def amS {α : Type} (g : α → List PV) : Prop := ∀ x, (g x).all bY = true
def bL (o : Option Row) (ver : Nat) (K : Row → Prop) : Prop := ∃ r, o = some r ∧ r.ver = ver ∧ K r
@[congr] theorem abT {o o' : Option Row} {ver : Nat} {K : Row → Prop} (h : o = o') : bL o ver K = bL o' ver K := by rw [h]
@[simp] theorem acI {r : Row} {ver : Nat} {K : Row → Prop} : bL (some r) ver K = aH (r.ver = ver) (K r) := by simp [bL, aH]
def C6 (els : List (List PV)) (i : Nat) (K : List PV → Prop) : Prop := ∃ el, els[i]? = some el ∧ K el
@[congr] theorem akE {l l' : List (List PV)} {i i' : Nat} {K : List PV → Prop} (h : l = l') (hi : i = i') : C6 l i K = C6 l' i' K := by rw [h, hi]
@[simp] theorem H6 {α : Type} [Inhabited α] {g : α → List PV} {l : List α} {i : Nat} {K : List PV → Prop} : C6 (emap g l) i K = aH (i < l.length) (K (g (nth l i))) := by
 simp only [C6, emap, aH, nth]
 apply propext
 constructor
 ·rintro ⟨el, h1, h2⟩
  simp at h1
  obtain ⟨x, h1, rfl⟩ := h1
  have := (List.getElem?_eq_some_iff.1 h1).1
  rw [h1]
  exact ⟨this, h2⟩
 ·rintro ⟨h1, h2⟩
  rw [List.getElem?_eq_getElem h1] at h2
  exact ⟨g l[i], by simp [h1], h2⟩
@[simp] theorem amT {e : List PV} {es : List (List PV)} {K : List PV → Prop} : C6 (e :: es) 0 K = go (K e) := by show _ = K e; simp [C6]
@[simp] theorem amU {e : List PV} {es : List (List PV)} {i : Nat} {K : List PV → Prop} : C6 (e :: es) (i + 1) K = C6 es i K := by simp [C6]
def kJ {α : Type} (l : List α) (i : Nat) : Option α := l[i]?
@[simp] theorem akF {α : Type} {x : α} {l : List α} : kJ (x :: l) 0 = some x := rfl
@[simp] theorem akG {α : Type} {x : α} {l : List α} {n : Nat} : kJ (x :: l) (n + 1) = kJ l n := rfl
def eO {α : Type} (o : Option α) (K : α → Prop) : Prop := ∃ v, o = some v ∧ K v
@[congr] theorem ahI {α : Type} {o o' : Option α} {K : α → Prop} (h : o = o') : eO o K = eO o' K := by rw [h]
@[simp] theorem akH {α : Type} {x : α} {K : α → Prop} : eO (some x) K = go (K x) := by show _ = K x; simp [eO]
def wO (ti : TI) (l : List PV) (j : Nat) (K : PV → Prop) : Prop := if ti.agg = true then aH (j + ti.size ≤ l.length) (K (.ag ((l.drop j).take ti.size))) else eO (kJ l j) K
@[congr] theorem akI {t t' : TI} {l l' : List PV} {j : Nat} {K : PV → Prop} (h1 : t = t') (h2 : l = l') : wO t l j K = wO t' l' j K := by rw [h1, h2]
@[simp] theorem aqr {k : IntKind} {l : List PV} {j : Nat} {K : PV → Prop} : wO (.int k) l j K = eO (kJ l j) K := by simp [wO, TI.agg]
@[simp] theorem amV {l : List PV} {j : Nat} {K : PV → Prop} : wO .bool l j K = eO (kJ l j) K := by simp [wO, TI.agg]
@[simp] theorem aqs {l : List PV} {j : Nat} {K : PV → Prop} : wO .str l j K = eO (kJ l j) K := by simp [wO, TI.agg]
@[simp] theorem akJ {e n b : Nat} {z : List PV} {l : List PV} {j : Nat} {K : PV → Prop} : wO (.slice e n b z) l j K = eO (kJ l j) K := by simp [wO, TI.agg]
@[simp] theorem aqt {e m n : Nat} {z : List PV} {l : List PV} {j : Nat} {K : PV → Prop} : wO (.arr e m n z) l j K = aH (j + z.length ≤ l.length) (K (.ag ((l.drop j).take z.length))) := by simp [wO, TI.agg, TI.size, TI.zero]
@[simp] theorem amW {l : List PV} {j : Nat} {K : PV → Prop} : wO .yQ l j K = eO (kJ l j) K := by simp [wO, TI.agg]
@[simp] theorem aqu {l : List PV} {j : Nat} {K : PV → Prop} : wO .fnT l j K = eO (kJ l j) K := by simp [wO, TI.agg]
@[simp] theorem ahJ {fs : List (Nat × Nat × Bool)} {z : List PV} {l : List PV} {j : Nat} {K : PV → Prop} : wO (.struct fs z) l j K = aH (j + z.length ≤ l.length) (K (.ag ((l.drop j).take z.length))) := by simp [wO, TI.agg, TI.size, TI.zero]
def jR (E : Env) (t : TypeId) (rows : Rows) (p : PV) (K : PV → Prop) : Prop :=
 aH ((E.ty t).known = true) (match p with
 | .rd l => wO (E.ty t) l 0 K
 | .ptr id ver i j => bL (rows id) ver fun r => C6 r.els i fun el => wO (E.ty t) el j K
 | _ => False)
@[congr] theorem acJ {E : Env} {t : TypeId} {rows : Rows} {p p' : PV} {K : PV → Prop} (h : p = p') : jR E t rows p K = jR E t rows p' K := by rw [h]
@[simp] theorem akK {E : Env} {t : TypeId} {rows : Rows} {l : List PV} {K : PV → Prop} : jR E t rows (.rd l) K = aH ((E.ty t).known = true) (wO (E.ty t) l 0 K) := rfl
@[simp] theorem ahK {E : Env} {t : TypeId} {rows : Rows} {id ver i j : Nat} {K : PV → Prop} : jR E t rows (.ptr id ver i j) K = aH ((E.ty t).known = true) (bL (rows id) ver fun r => C6 r.els i fun el => wO (E.ty t) el j K) := rfl
theorem H7 {ti : TI} {l : List PV} {j : Nat} {K : PV → Prop} : aV (fun v => if ti.agg = true then j + ti.size ≤ l.length ∧ v = .ag ((l.drop j).take ti.size) else l[j]? = some v) K = wO ti l j K := by
 simp only [wO, eO]
 split
 ·rw [iN, i7]
 ·rfl
theorem r7 {E : Env} {t : TypeId} {rows : Rows} {p : PV} {K : PV → Prop} : aV (fun v => rG E t rows p v) K = jR E t rows p K := by
 simp only [rG, jR]
 rw [iN]
 congr 1
 cases p with
 | rd l => dsimp only; rw [← H7]; simp [go]
 | ptr id ver i j =>
  simp only [bL, C6, ← H7]
  apply propext; simp only [aV]
  constructor
  ·rintro ⟨v, ⟨r, h1, h2, el, h3, h4⟩, h5⟩; exact ⟨r, h1, h2, el, h3, v, h4, h5⟩
  ·rintro ⟨r, h1, h2, el, h3, v, h4, h5⟩; exact ⟨v, ⟨r, h1, h2, el, h3, h4⟩, h5⟩
 | _ => simp [aV]
def i9 (ti : TI) (i : Nat) (x : PV) (K : PV → Prop) : Prop :=
 match ti with
 | .struct fs _ => eO (kJ fs i) fun p => match x with
  | .ag l => if p.2.2 = true then K (.ag ((l.drop p.1).take p.2.1)) else eO (kJ l p.1) K
  | _ => False
 | _ => False
@[congr] theorem abU {t t' : TI} {i : Nat} {x x' : PV} {K : PV → Prop} (h : t = t') (h2 : x = x') : i9 t i x K = i9 t' i x' K := by rw [h, h2]
def E8 (p : Nat × Nat × Bool) (l : List PV) (K : PV → Prop) : Prop := if p.2.2 = true then K (.ag ((l.drop p.1).take p.2.1)) else eO (kJ l p.1) K
@[simp] theorem akL {o n : Nat} {l : List PV} {K : PV → Prop} : E8 (o, n, true) l K = go (K (.ag ((l.drop o).take n))) := by show _ = K _; simp [E8]
@[simp] theorem ahL {o n : Nat} {l : List PV} {K : PV → Prop} : E8 (o, n, false) l K = eO (kJ l o) K := by simp [E8]
@[congr] theorem ahM {p p' : Nat × Nat × Bool} {l l' : List PV} {K : PV → Prop} (h : p = p') (h2 : l = l') : E8 p l K = E8 p' l' K := by rw [h, h2]
@[simp] theorem ahN {fs : List (Nat × Nat × Bool)} {z : List PV} {i : Nat} {l : List PV} {K : PV → Prop} : i9 (.struct fs z) i (.ag l) K = eO (kJ fs i) fun p => E8 p l K := rfl
theorem wP {E : Env} {t : TypeId} {i : Nat} {x : PV} {K : PV → Prop} : aV (fun v => rU E t i x v) K = i9 (E.ty t) i x K := by
 simp only [rU, i9]
 cases E.ty t with
 | struct fs z =>
  simp only [eO]
  apply propext; simp only [aV]
  cases x with
  | ag l =>
   simp only
   constructor
   ·rintro ⟨v, ⟨o, n, b, h1, h2⟩, h3⟩
    refine ⟨_, h1, ?_⟩
    simp only
    split at h2
    ·rename_i hb; rw [if_pos hb, ← h2]; exact h3
    ·rename_i hb; rw [if_neg hb]; exact ⟨v, h2, h3⟩
   ·rintro ⟨⟨o, n, b⟩, h1, h2⟩
    simp only at h2
    split at h2
    ·rename_i hb; exact ⟨_, ⟨o, n, b, h1, by rw [if_pos hb]⟩, h2⟩
    ·rename_i hb; obtain ⟨v, h3, h4⟩ := h2; exact ⟨v, ⟨o, n, b, h1, by rw [if_neg hb]; exact h3⟩, h4⟩
  | _ => simp
 | _ => simp [aV]
def dA (ti : TI) (rows : Rows) (i : Nat) (x : PV) (K : PV → Prop) : Prop :=
 match ti with
 | .struct fs _ => eO (kJ fs i) fun p => match x with
  | .rd l => aH (p.1 ≤ l.length) (K (.rd (l.drop p.1)))
  | .ptr id ver a j => bL (rows id) ver fun _ => K (.ptr id ver a (j + p.1))
  | _ => False
 | _ => False
@[congr] theorem QB {t t' : TI} {rows : Rows} {i : Nat} {x x' : PV} {K : PV → Prop} (h : t = t') (h2 : x = x') : dA t rows i x K = dA t' rows i x' K := by rw [h, h2]
@[simp] theorem XY {fs : List (Nat × Nat × Bool)} {z : List PV} {rows : Rows} {i : Nat} {l : List PV} {K : PV → Prop} : dA (.struct fs z) rows i (.rd l) K = eO (kJ fs i) fun p => aH (p.1 ≤ l.length) (K (.rd (l.drop p.1))) := rfl
@[simp] theorem V2 {fs : List (Nat × Nat × Bool)} {z : List PV} {rows : Rows} {i id ver a j : Nat} {K : PV → Prop} : dA (.struct fs z) rows i (.ptr id ver a j) K = eO (kJ fs i) fun p => bL (rows id) ver fun _ => K (.ptr id ver a (j + p.1)) := rfl
theorem oL {E : Env} {t : TypeId} {rows : Rows} {i : Nat} {x : PV} {K : PV → Prop} : aV (fun v => eJ E t rows i x v) K = dA (E.ty t) rows i x K := by
 simp only [eJ, dA]
 cases E.ty t with
 | struct fs z =>
  simp only [eO]
  apply propext; simp only [aV]
  cases x with
  | rd l =>
   simp only [aH]
   constructor
   ·rintro ⟨v, ⟨o, n, b, h1, h2, rfl⟩, h3⟩; exact ⟨_, h1, h2, h3⟩
   ·rintro ⟨⟨o, n, b⟩, h1, h2, h3⟩; exact ⟨_, ⟨o, n, b, h1, h2, rfl⟩, h3⟩
  | ptr id ver a j =>
   simp only [bL]
   constructor
   ·rintro ⟨v, ⟨o, n, b, h1, ⟨r, h2, h3⟩, rfl⟩, h4⟩; exact ⟨_, h1, r, h2, h3, h4⟩
   ·rintro ⟨⟨o, n, b⟩, h1, r, h2, h3, h4⟩; exact ⟨_, ⟨o, n, b, h1, ⟨r, h2, h3⟩, rfl⟩, h4⟩
  | _ => simp
 | _ => simp [aV]
def bF (n : Nat) (l : List (List PV)) : Prop := ∀ e ∈ l, e.length = n
@[simp] theorem dB {α : Type} {g : α → List PV} {n : Nat} {l : List α} : (Enc g n) → bF n (emap g l) = True := by
 intro h
 simp only [bF, emap, List.mem_map, eq_iff_iff, iff_true]
 rintro e ⟨x, _, rfl⟩
 exact h x
@[simp] theorem ahO {n : Nat} : bF n [] = True := by simp [bF]
@[simp] theorem afo {n : Nat} {e : List PV} {l : List (List PV)} : bF n (e :: l) = (e.length = n ∧ bF n l) := by simp [bF]
def bU (ti : TI) (rows : Rows) (x ix : PV) (K : PV → Prop) : Prop :=
 match ti, ix with
 | .slice _ n _ _, .int _ k => aH (0 ≤ k) (match x with
  | .sl l => aH (bF n l) (C6 l k.toNat fun el => K (.rd el))
  | .i3 l => aH (bF n l) (C6 l k.toNat fun el => K (.rd el))
  | .own id ver off len => bL (rows id) ver fun r => aH (r.size = n ∧ k.toNat < len) (K (.ptr id ver (off + k.toNat) 0))
  | _ => False)
 | .arr _ m n _, .int _ k => aH (0 ≤ k ∧ k.toNat < m) (match x with
  | .rd l => aH (k.toNat * n ≤ l.length) (K (.rd (l.drop (k.toNat * n))))
  | .ptr id ver a j => bL (rows id) ver fun _ => K (.ptr id ver a (j + k.toNat * n))
  | _ => False)
 | _, _ => False
@[congr] theorem QC {t t' : TI} {rows : Rows} {x x' y y' : PV} {K : PV → Prop} (h : t = t') (h2 : x = x') (h3 : y = y') : bU t rows x y K = bU t' rows x' y' K := by rw [h, h2, h3]
section
variable {α : Type} [Inhabited α] {g : α → List PV} {l : List α} {e n b : Nat} {z : List PV} {rows : Rows} {kk : IntKind} {k : Int} {K : PV → Prop} {els : List (List PV)} {id ver off len : Nat}
@[simp] theorem V3 : bU (.slice e n b z) rows (aJ g l) (.int kk k) K = aH (0 ≤ k ∧ k.toNat < l.length) (aH (bF n (emap g l)) (K (.rd (g (nth l k.toNat))))) := by
 simp only [bU, aJ, H6, aH, and_assoc]
 apply propext
 constructor
 ·rintro ⟨h1, h2, h3, h4⟩; exact ⟨h1, h3, h2, h4⟩
 ·rintro ⟨h1, h2, h3, h4⟩; exact ⟨h1, h3, h2, h4⟩
@[simp] theorem XZ : bU (.slice e n b z) rows (.sl els) (.int kk k) K = aH (0 ≤ k) (aH (bF n els) (C6 els k.toNat fun el => K (.rd el))) := rfl
@[simp] theorem V4 : bU (.slice e n b z) rows (.i3 els) (.int kk k) K = aH (0 ≤ k) (aH (bF n els) (C6 els k.toNat fun el => K (.rd el))) := rfl
@[simp] theorem V5 {m : Nat} {l : List PV} : bU (.arr e m n z) rows (.rd l) (.int kk k) K = aH (0 ≤ k ∧ k.toNat < m) (aH (k.toNat * n ≤ l.length) (K (.rd (l.drop (k.toNat * n))))) := rfl
@[simp] theorem TN {m a j : Nat} : bU (.arr e m n z) rows (.ptr id ver a j) (.int kk k) K = aH (0 ≤ k ∧ k.toNat < m) (bL (rows id) ver fun _ => K (.ptr id ver a (j + k.toNat * n))) := rfl
@[simp] theorem V6 : bU (.slice e n b z) rows (.own id ver off len) (.int kk k) K = aH (0 ≤ k) (bL (rows id) ver fun r => aH (r.size = n ∧ k.toNat < len) (K (.ptr id ver (off + k.toNat) 0))) := rfl
end
theorem oM {E : Env} {t : TypeId} {rows : Rows} {x ix : PV} {K : PV → Prop} : aV (fun v => eK E t rows x ix v) K = bU (E.ty t) rows x ix K := by
 simp only [eK, bU]
 cases E.ty t with
 | slice e n b z =>
  cases ix with
  | int kk k =>
   simp only
   rw [iN]
   congr 1
   cases x with
   | sl l =>
    simp only [aH, C6, bF]
    apply propext; simp only [aV]
    constructor
    ·rintro ⟨v, ⟨el, h1, h2, rfl⟩, h4⟩; exact ⟨h2, el, h1, h4⟩
    ·rintro ⟨h2, el, h1, h4⟩; exact ⟨_, ⟨el, h1, h2, rfl⟩, h4⟩
   | i3 l =>
    simp only [aH, C6, bF]
    apply propext; simp only [aV]
    constructor
    ·rintro ⟨v, ⟨el, h1, h2, rfl⟩, h4⟩; exact ⟨h2, el, h1, h4⟩
    ·rintro ⟨h2, el, h1, h4⟩; exact ⟨_, ⟨el, h1, h2, rfl⟩, h4⟩
   | own id ver off len =>
    simp only [aH, bL]
    apply propext; simp only [aV]
    constructor
    ·rintro ⟨v, ⟨r, h1, h2, h3, h4, rfl⟩, h5⟩; exact ⟨r, h1, h2, ⟨h3, h4⟩, h5⟩
    ·rintro ⟨r, h1, h2, ⟨h3, h4⟩, h5⟩; exact ⟨_, ⟨r, h1, h2, h3, h4, rfl⟩, h5⟩
   | _ => simp [aV]
  | _ => simp [aV]
 | arr e m n z =>
  cases ix with
  | int kk k =>
   simp only
   rw [iN]
   congr 1
   cases x with
   | rd l =>
    simp only
    rw [iN, i7]
   | ptr id ver a j =>
    simp only [bL]
    apply propext; simp only [aV]
    constructor
    ·rintro ⟨v, ⟨⟨r, h1, h2⟩, rfl⟩, h3⟩; exact ⟨r, h1, h2, h3⟩
    ·rintro ⟨r, h1, h2, h3⟩; exact ⟨_, ⟨⟨r, h1, h2⟩, rfl⟩, h3⟩
   | _ => simp [aV]
  | _ => simp [aV]
 | _ => simp [aV]
def wQ (d : Nat) (o : Option PV) (K : Nat → Prop) : Prop :=
 match o with
 | none => K d
 | some (.int _ k) => aH (0 ≤ k) (K k.toNat)
 | some _ => False
@[congr] theorem akM {d d' : Nat} {o o' : Option PV} {K : Nat → Prop} (h : d = d') (h2 : o = o') : wQ d o K = wQ d' o' K := by rw [h, h2]
@[simp] theorem amX {d : Nat} {K : Nat → Prop} : wQ d none K = go (K d) := rfl
@[simp] theorem amY {d : Nat} {kk : IntKind} {k : Int} {K : Nat → Prop} : wQ d (some (.int kk k)) K = aH (0 ≤ k) (K k.toNat) := rfl
theorem M3 {d : Nat} {o : Option PV} {K : Nat → Prop} : wQ d o K ↔ ∃ n, sY d o n ∧ K n := by
 cases o with
 | none => simp [wQ, sY]
 | some p =>
  cases p with
  | int kk k =>
   simp only [wQ, sY, aH]
   constructor
   ·rintro ⟨h1, h2⟩; exact ⟨_, ⟨h1, rfl⟩, h2⟩
   ·rintro ⟨n, ⟨h1, rfl⟩, h2⟩; exact ⟨h1, h2⟩
  | _ => simp [wQ, sY]
def TO {α : Type} (mk mkx : List α → PV) (n : Nat) (l : List α) (ok : Prop) (lo hi mx : Option PV) (K : PV → Prop) : Prop :=
 wQ 0 lo fun a => wQ l.length hi fun b => aH (a ≤ b ∧ b ≤ l.length) (aH ok (match mx with
  | none => K (mk ((l.take b).drop a))
  | some m => wQ 0 (some m) fun c => aH (b = c ∧ hi.isSome = true) (K (mkx ((l.take b).drop a)))))
def eS (ti : TI) (rows : Rows) (x : PV) (lo hi mx : Option PV) (K : PV → Prop) : Prop :=
 match ti with
 | .slice _ n _ _ =>
  match x with
  | .nil => wQ 0 lo fun a => wQ 0 hi fun b => aH (a = 0 ∧ b = 0 ∧ mx.isNone = true) (K .nil)
  | .sl l => TO .sl .i3 n l (bF n l) lo hi mx K
  | .i3 l => TO .sl .i3 n l (bF n l) lo hi mx K
  | .own id ver off len => bL (rows id) ver fun r => aH (r.size = n) (wQ 0 lo fun a => wQ len hi fun b => aH (a ≤ b ∧ b ≤ len ∧ mx.isNone = true) (K (.own id ver (off + a) (b - a))))
  | _ => False
 | _ => False
@[congr] theorem abV {t t' : TI} {rows : Rows} {x x' : PV} {lo LI hi eQ mx mx' : Option PV} {K : PV → Prop} (h : t = t') (h2 : x = x') (h3 : lo = LI) (h4 : hi = eQ) (h5 : mx = mx') : eS t rows x lo hi mx K = eS t' rows x' LI eQ mx' K := by rw [h, h2, h3, h4, h5]
section
variable {α : Type} {g : α → List PV} {l : List α} {e n b : Nat} {z : List PV} {rows : Rows} {lo hi mx : Option PV} {K : PV → Prop} {els : List (List PV)} {id ver off len : Nat}
theorem H8 {a b : Nat} : ((emap g l).take b).drop a = emap g ((l.take b).drop a) := by simp [emap]
@[simp] theorem afp : eS (.slice e n b z) rows (aJ g l) lo hi none K = wQ 0 lo fun a => wQ l.length hi fun b => aH (a ≤ b ∧ b ≤ l.length) (aH (bF n (emap g l)) (K (aJ g ((l.take b).drop a)))) := by
 simp only [eS, aJ, TO, H8]
 simp [emap]
theorem E9 {m : PV} : eS (.slice e n b z) rows (aJ g l) lo hi (some m) K = wQ 0 lo fun a => wQ l.length hi fun b => aH (a ≤ b ∧ b ≤ l.length) (aH (bF n (emap g l)) (wQ 0 (some m) fun c => aH (b = c ∧ hi.isSome = true) (K (.i3 (emap g ((l.take b).drop a)))))) := by
 simp only [eS, aJ, TO, H8]
 simp [emap]
@[simp] theorem afq : eS (.slice e n b z) rows .nil lo hi mx K = wQ 0 lo fun a => wQ 0 hi fun b => aH (a = 0 ∧ b = 0 ∧ mx.isNone = true) (K .nil) := rfl
@[simp] theorem afr : eS (.slice e n b z) rows (.own id ver off len) lo hi mx K = bL (rows id) ver fun r => aH (r.size = n) (wQ 0 lo fun a => wQ len hi fun b => aH (a ≤ b ∧ b ≤ len ∧ mx.isNone = true) (K (.own id ver (off + a) (b - a)))) := rfl
end
theorem QD {l : List (List PV)} {n : Nat} {lo hi mx : Option PV} {K : PV → Prop} : (∃ v, (∃ a b, sY 0 lo a ∧ sY l.length hi b ∧ a ≤ b ∧ b ≤ l.length ∧ (∀ e ∈ l, e.length = n) ∧ LP l a b hi mx v) ∧ K v) ↔ TO .sl .i3 n l (bF n l) lo hi mx K := by
 simp only [TO, M3, aH, bF, LP]
 constructor
 ·rintro ⟨v, ⟨a, b, h1, h2, h3, h4, h5, h6⟩, h7⟩
  refine ⟨a, h1, b, h2, ⟨h3, h4⟩, h5, ?_⟩
  cases mx with
  | none => simp only at h6 ⊢; rw [← h6]; exact h7
  | some m => obtain ⟨c, q1, q2, q3, rfl⟩ := h6; exact ⟨c, q1, ⟨q2, q3⟩, h7⟩
 ·rintro ⟨a, h1, b, h2, ⟨h3, h4⟩, h5, h6⟩
  cases mx with
  | none => exact ⟨_, ⟨a, b, h1, h2, h3, h4, h5, rfl⟩, h6⟩
  | some m => obtain ⟨c, q1, ⟨q2, q3⟩, h7⟩ := h6; exact ⟨_, ⟨a, b, h1, h2, h3, h4, h5, c, q1, q2, q3, rfl⟩, h7⟩
theorem wR {E : Env} {t : TypeId} {rows : Rows} {x : PV} {lo hi mx : Option PV} {K : PV → Prop} : aV (fun v => mL E t rows x lo hi mx v) K = eS (E.ty t) rows x lo hi mx K := by
 simp only [mL, eS]
 cases E.ty t with
 | slice e n b z =>
  cases x with
  | sl l => exact propext QD
  | i3 l => exact propext QD
  | nil =>
   simp only [M3, aH]
   apply propext; simp only [aV]
   constructor
   ·rintro ⟨v, ⟨a, b, h1, h2, h3, h4, h5, rfl⟩, h6⟩; exact ⟨a, h1, b, h2, ⟨h3, h4, h5⟩, h6⟩
   ·rintro ⟨a, h1, b, h2, ⟨h3, h4, h5⟩, h6⟩; exact ⟨_, ⟨a, b, h1, h2, h3, h4, h5, rfl⟩, h6⟩
  | own id ver off len =>
   simp only [M3, aH, bL]
   apply propext; simp only [aV]
   constructor
   ·rintro ⟨v, ⟨r, q1, q2, q3, a, b, h1, h2, h3, h4, h5, rfl⟩, h6⟩; exact ⟨r, q1, q2, q3, a, h1, b, h2, ⟨h3, h4, h5⟩, h6⟩
   ·rintro ⟨r, q1, q2, q3, a, h1, b, h2, ⟨h3, h4, h5⟩, h6⟩; exact ⟨_, ⟨r, q1, q2, q3, a, b, h1, h2, h3, h4, h5, rfl⟩, h6⟩
  | _ => simp [aV]
 | _ => simp [aV]
def rP (rows : Rows) (x : PV) (K : PV → Prop) : Prop :=
 match x with
 | .rd l => K (.rd l)
 | .ptr id ver i j => bL (rows id) ver fun _ => K (.ptr id ver i j)
 | _ => False
@[congr] theorem afs {rows : Rows} {x x' : PV} {K : PV → Prop} (h : x = x') : rP rows x K = rP rows x' K := by rw [h]
@[simp] theorem amZ {rows : Rows} {l : List PV} {K : PV → Prop} : rP rows (.rd l) K = go (K (.rd l)) := rfl
@[simp] theorem akN {rows : Rows} {id ver i j : Nat} {K : PV → Prop} : rP rows (.ptr id ver i j) K = bL (rows id) ver fun _ => K (.ptr id ver i j) := rfl
theorem C7 {rows : Rows} {x : PV} {K : PV → Prop} : aV (fun v => BX rows x v) K = rP rows x K := by
 simp only [BX, rP]
 cases x with
 | rd l => dsimp only; rw [i7]
 | ptr id ver i j =>
  simp only [bL]
  apply propext; simp only [aV]
  constructor
  ·rintro ⟨v, ⟨⟨r, h1, h2⟩, rfl⟩, h3⟩; exact ⟨r, h1, h2, h3⟩
  ·rintro ⟨r, h1, h2, h3⟩; exact ⟨_, ⟨⟨r, h1, h2⟩, rfl⟩, h3⟩
 | _ => simp [aV]
def kN (ti : TI) (rows : Rows) (x : PV) (K : PV → Prop) : Prop :=
 match ti with
 | .slice _ _ _ _ => match x with
  | .nil => K (.int .i64 0)
  | .sl l => K (.int .i64 l.length)
  | .i3 l => K (.int .i64 l.length)
  | .own id ver _ len => bL (rows id) ver fun _ => K (.int .i64 len)
  | _ => False
 | _ => False
@[congr] theorem aft {t t' : TI} {rows : Rows} {x x' : PV} {K : PV → Prop} (h : t = t') (h2 : x = x') : kN t rows x K = kN t' rows x' K := by rw [h, h2]
section
variable {α : Type} {g : α → List PV} {l : List α} {e n b : Nat} {z : List PV} {rows : Rows} {K : PV → Prop} {els : List (List PV)} {id ver off len : Nat}
@[simp] theorem akO : kN (.slice e n b z) rows (aJ g l) K = go (K (.int .i64 l.length)) := by show _ = K _; simp [kN, aJ, emap]
@[simp] theorem akP : kN (.slice e n b z) rows .nil K = go (K (.int .i64 0)) := rfl
@[simp] theorem am0 : kN (.slice e n b z) rows (.sl els) K = go (K (.int .i64 els.length)) := rfl
@[simp] theorem akQ : kN (.slice e n b z) rows (.i3 els) K = go (K (.int .i64 els.length)) := rfl
@[simp] theorem akR : kN (.slice e n b z) rows (.own id ver off len) K = bL (rows id) ver fun _ => K (.int .i64 len) := rfl
end
theorem C8 {ti : TI} {rows : Rows} {x : PV} {K : PV → Prop} : aV (fun v => vY ti rows x v) K = kN ti rows x K := by
 simp only [vY, kN]
 cases ti with
 | slice e n b z =>
  apply propext; simp only [aV, SP]
  cases x with
  | own id ver off len =>
   simp only [bL]
   constructor
   ·rintro ⟨v, ⟨n, ⟨⟨r, h1, h2⟩, rfl⟩, rfl⟩, h4⟩; exact ⟨r, h1, h2, h4⟩
   ·rintro ⟨r, h1, h2, h4⟩; exact ⟨_, ⟨_, ⟨⟨r, h1, h2⟩, rfl⟩, rfl⟩, h4⟩
  | _ => simp
 | _ => simp [aV]
def iO (els : List (List PV)) (i j : Nat) (l : List PV) : List (List PV) := els.set i (((els[i]?).getD []).take j ++ l ++ ((els[i]?).getD []).drop (j + l.length))
def tD (els : List (List PV)) (i n : Nat) : Prop := ∃ el, els[i]? = some el ∧ n ≤ el.length
def fY (rows : Rows) (l : List PV) : Prop := ∀ q ∈ l, gV rows q
@[simp] theorem ahP {rows : Rows} : fY rows [] = True := by simp [fY]
@[simp] theorem afu {rows : Rows} {p : PV} {l : List PV} : fY rows (p :: l) = (gV rows p ∧ fY rows l) := by simp [fY]
@[simp] theorem ahQ {α : Type} [Inhabited α] {g : α → List PV} {l : List α} {i n : Nat} : tD (emap g l) i n = (i < l.length ∧ n ≤ (g (nth l i)).length) := by
 exact H6 (g := g) (l := l) (i := i) (K := fun el => n ≤ el.length)
def jA (E : Env) (t : TypeId) (rows : Rows) (p x : PV) (K : Nat → Row → Prop) : Prop :=
 aH ((E.ty t).known = true) (match p with
 | .ptr id ver i j => bL (rows id) ver fun r => eO (bR x) fun l => aH (tD r.els i (j + l.length) ∧ fY rows l ∧ l.length = (E.ty t).size) (K id ⟨ver, r.e, r.size, iO r.els i j l⟩)
 | _ => False)
@[congr] theorem abW {E : Env} {t : TypeId} {rows : Rows} {p p' x x' : PV} {K : Nat → Row → Prop} (h1 : p = p') (h2 : x = x') : jA E t rows p x K = jA E t rows p' x' K := by rw [h1, h2]
@[simp] theorem afv {E : Env} {t : TypeId} {rows : Rows} {id ver i j : Nat} {x : PV} {K : Nat → Row → Prop} : jA E t rows (.ptr id ver i j) x K = aH ((E.ty t).known = true) (bL (rows id) ver fun r => eO (bR x) fun l => aH (tD r.els i (j + l.length) ∧ fY rows l ∧ l.length = (E.ty t).size) (K id ⟨ver, r.e, r.size, iO r.els i j l⟩)) := rfl
theorem C9 {E : Env} {t : TypeId} {rows : Rows} {p x : PV} {K : Nat → Row → Prop} : (∃ id r, o6 E t rows p x .undef (some (id, r)) ∧ K id r) = jA E t rows p x K := by
 simp only [o6, jA, aH, bL, eO, tD, fY]
 apply propext
 constructor
 ·rintro ⟨id, r, ⟨h1, _, h2⟩, h3⟩
  refine ⟨h1, ?_⟩
  split at h2
  ·obtain ⟨r0, q1, q2, el, q3, l, q4, q5, q6, q7, q8⟩ := h2
   simp only [Option.some.injEq, Prod.mk.injEq] at q8
   obtain ⟨rfl, rfl⟩ := q8
   refine ⟨r0, q1, q2, l, q4, ⟨⟨el, q3, q7⟩, q5, q6⟩, ?_⟩
   simp only [iO, q3, Option.getD_some]
   rw [q2] at h3
   exact h3
  ·exact h2.elim
 ·rintro ⟨h1, h2⟩
  split at h2
  ·obtain ⟨r0, q1, q2, l, q4, ⟨⟨el, q3, q7⟩, q5, q6⟩, h3⟩ := h2
   simp only [iO, q3, Option.getD_some] at h3
   refine ⟨_, _, ⟨h1, trivial, r0, q1, q2, el, q3, l, q4, q5, q6, q7, rfl⟩, ?_⟩
   rw [← q2] at h3
   exact h3
  ·exact h2.elim
def jJ (rows : Rows) (y : PV) (K : List (List PV) → Prop) : Prop :=
 match y with
 | .nil => K []
 | .sl k => K k
 | .i3 k => K k
 | .own id ver off len => bL (rows id) ver fun r => K ((r.els.drop off).take len)
 | _ => False
@[congr] theorem afw {rows : Rows} {y y' : PV} {K : List (List PV) → Prop} (h : y = y') : jJ rows y K = jJ rows y' K := by rw [h]
@[simp] theorem akS {rows : Rows} {K : List (List PV) → Prop} : jJ rows .nil K = go (K []) := rfl
@[simp] theorem am1 {rows : Rows} {l : List (List PV)} {K : List (List PV) → Prop} : jJ rows (.sl l) K = go (K l) := rfl
@[simp] theorem akT {α : Type} {g : α → List PV} {rows : Rows} {l : List α} {K : List (List PV) → Prop} : jJ rows (aJ g l) K = go (K (emap g l)) := rfl
@[simp] theorem akU {rows : Rows} {l : List (List PV)} {K : List (List PV) → Prop} : jJ rows (.i3 l) K = go (K l) := rfl
@[simp] theorem akV {rows : Rows} {id ver off len : Nat} {K : List (List PV) → Prop} : jJ rows (.own id ver off len) K = bL (rows id) ver fun r => K ((r.els.drop off).take len) := rfl
theorem QE {rows : Rows} {y : PV} {K : List (List PV) → Prop} : (∃ l, s8 rows y l ∧ K l) = jJ rows y K := by
 simp only [s8, jJ]
 apply propext
 cases y with
 | own id ver off len =>
  simp only [bL]
  constructor
  ·rintro ⟨l, ⟨r, h1, h2, rfl⟩, h3⟩; exact ⟨r, h1, h2, h3⟩
  ·rintro ⟨r, h1, h2, h3⟩; exact ⟨_, ⟨r, h1, h2, rfl⟩, h3⟩
 | _ => simp
def pE (t : TI) (rows : Rows) (x y : PV) (clk d : Nat) (K : PV → Rows → Nat → Prop) : Prop :=
 match t with
 | .slice e n b _ => jJ rows y fun l => aH (bF n l) (match x with
  | .nil => aH (l.length ≤ room ∧ l.length * b ≤ room) (K (.own d clk 0 l.length) (dJ rows d (some ⟨clk, e, n, l⟩)) (clk + 1))
  | .own id ver off len => bL (rows id) ver fun r => aH (off = 0 ∧ len = r.els.length ∧ r.e = e ∧ r.size = n) (aH (len + l.length ≤ room ∧ (len + l.length) * b ≤ room) (K (.own id clk 0 (len + l.length)) (dJ rows id (some ⟨clk, e, n, r.els ++ l⟩)) (clk + 1)))
  | .i3 l0 => aH (bF n l0 ∧ ∀ e ∈ l, ∀ p ∈ e, bY p = true) (aH (l0.length + l.length ≤ room ∧ (l0.length + l.length) * b ≤ room) (K (.sl (l0 ++ l)) rows clk))
  | _ => False)
 | _ => False
@[congr] theorem afx {t t' : TI} {rows : Rows} {x x' y y' : PV} {clk d : Nat} {K : PV → Rows → Nat → Prop} (h1 : t = t') (h3 : x = x') (h4 : y = y') :
  pE t rows x y clk d K = pE t' rows x' y' clk d K := by rw [h1, h3, h4]
section
variable {e n b clk d id ver off len : Nat} {z : List PV} {rows : Rows} {y : PV} {K : PV → Rows → Nat → Prop} {l0 : List (List PV)}
@[simp] theorem akW : pE (.slice e n b z) rows .nil y clk d K = jJ rows y fun l => aH (bF n l) (aH (l.length ≤ room ∧ l.length * b ≤ room) (K (.own d clk 0 l.length) (dJ rows d (some ⟨clk, e, n, l⟩)) (clk + 1))) := rfl
@[simp] theorem akX : pE (.slice e n b z) rows (.own id ver off len) y clk d K = jJ rows y fun l => aH (bF n l) (bL (rows id) ver fun r => aH (off = 0 ∧ len = r.els.length ∧ r.e = e ∧ r.size = n) (aH (len + l.length ≤ room ∧ (len + l.length) * b ≤ room) (K (.own id clk 0 (len + l.length)) (dJ rows id (some ⟨clk, e, n, r.els ++ l⟩)) (clk + 1)))) := rfl
@[simp] theorem akY : pE (.slice e n b z) rows (.i3 l0) y clk d K = jJ rows y fun l => aH (bF n l) (aH (bF n l0 ∧ ∀ e ∈ l, ∀ p ∈ e, bY p = true) (aH (l0.length + l.length ≤ room ∧ (l0.length + l.length) * b ≤ room) (K (.sl (l0 ++ l)) rows clk))) := rfl
end
theorem acK {t : TI} {rows : Rows} {x y : PV} {clk d : Nat} {K : PV → Rows → Nat → Prop} : TG t rows x y clk d K = pE t rows x y clk d K := by
 unfold TG pE
 cases t with
 | slice e n b z =>
  dsimp only
  rw [← QE]
  congr 1; funext l; congr 1
  simp only [aH, bF]
  congr 1
  cases x with
  | own id ver off len => simp only [bL, and_assoc]
  | i3 l0 => simp only [bF, and_assoc]
  | _ => rfl
 | _ => rfl
def fzR (o : Option Row) (ver off len : Nat) : PV :=
 match o with
 | some r => if r.ver = ver then .sl ((r.els.drop off).take len) else .undef
 | none => .undef
@[simp] theorem asB {rows : Rows} {id ver off len : Nat} : fz rows (.own id ver off len) = fzR (rows id) ver off len := rfl
@[simp] theorem am2 {α : Type} {g : α → List PV} {l : List α} {ver e n off len : Nat} : fzR (some ⟨ver, e, n, emap g l⟩) ver off len = aJ g ((l.drop off).take len) := by simp [fzR, aJ, emap]
@[simp] theorem asC {rows : Rows} : fz rows .nil = .sl [] := rfl
@[simp] theorem asD {rows : Rows} {l : List (List PV)} : fz rows (.i3 l) = .sl l := rfl
@[simp] theorem avu {rows : Rows} {l : List (List PV)} : fz rows (.sl l) = .sl l := rfl
@[simp] theorem asE {α : Type} {g : α → List PV} {rows : Rows} {l : List α} : fz rows (aJ g l) = aJ g l := rfl
@[simp] theorem asF {rows : Rows} {k : IntKind} {n : Int} : fz rows (.int k n) = .int k n := rfl
@[simp] theorem aqv {rows : Rows} {b : Bool} : fz rows (.bool b) = .bool b := rfl
@[simp] theorem avv {rows : Rows} {f : FuncId} {l : List PV} : fz rows (.fn f l) = .fn f l := rfl
@[simp] theorem asG {rows : Rows} {id ver off len : Nat} : pz rows (.own id ver off len) = fzR (rows id) ver off len := rfl
@[simp] theorem asH {rows : Rows} : pz rows .nil = .sl [] := rfl
@[simp] theorem asI {rows : Rows} {l : List (List PV)} : pz rows (.i3 l) = .sl l := rfl
@[simp] theorem avw {rows : Rows} {l : List (List PV)} : pz rows (.sl l) = .sl l := rfl
@[simp] theorem asJ {α : Type} {g : α → List PV} {rows : Rows} {l : List α} : pz rows (aJ g l) = aJ g l := rfl
@[simp] theorem asK {rows : Rows} {k : IntKind} {n : Int} : pz rows (.int k n) = .int k n := rfl
@[simp] theorem aqw {rows : Rows} {b : Bool} : pz rows (.bool b) = .bool b := rfl
@[simp] theorem avx {rows : Rows} {f : FuncId} {l : List PV} : pz rows (.fn f l) = .fn f l := rfl
@[simp] theorem avy {rows : Rows} {l : List PV} : pz rows (.ag l) = .ag (l.map (fz rows)) := rfl
@[simp] theorem am3 {α : Type} {g : α → List PV} {l : List α} : fA (aJ g l) = true := rfl
@[simp] theorem ak0 {α : Type} {g : α → List PV} {l : List α} : bY (aJ g l) = true := rfl
@[simp] theorem aqx {α : Type} {g : α → List PV} {l : List α} : a9 (aJ g l) = [] := rfl
@[simp] theorem am4 {α : Type} {g : α → List PV} {l : List α} : dG (aJ g l) = [] := rfl
@[simp] theorem aqy {l : List (List PV)} : dG (.sl l) = [] := rfl
@[simp] theorem am5 {l : List (List PV)} : dG (.i3 l) = [] := rfl
@[simp] theorem am6 {k : IntKind} {n : Int} : dG (.int k n) = [] := rfl
@[simp] theorem ak1 {b : Bool} : dG (.bool b) = [] := rfl
@[simp] theorem aqz {f : FuncId} {l : List PV} : dG (.fn f l) = [] := rfl
@[simp] theorem am7 : dG .nil = [] := rfl
@[simp] theorem am8 {id ver off len : Nat} : dG (.own id ver off len) = [id] := rfl
@[simp] theorem aqA {l : List PV} : dG (.ag l) = l.flatMap a9 := rfl
@[simp] theorem am9 {α : Type} {g : α → List PV} {rows : Rows} {l : List α} : gV rows (aJ g l) = True := rfl
@[simp] theorem ahR {α : Type} {g : α → List PV} {l : List α} : bR (aJ g l) = some [aJ g l] := rfl
@[simp] theorem ahS {α : Type} {g : α → List PV} {l : List α} : eD (aJ g l) = some [aJ g l] := rfl
def cW (o : Option Row) : Prop := ∀ r, o = some r → ∀ e ∈ r.els, ∀ p ∈ e, bY p = true
@[simp] theorem acL {rows : Rows} : dQ rows [] = True := by simp [dQ]
@[simp] theorem abX {rows : Rows} {id : Nat} {ids : List Nat} : dQ rows (id :: ids) = (cW (rows id) ∧ dQ rows ids) := by simp [dQ, cW]
@[simp] theorem acM : cW none = True := by simp [cW]
@[simp] theorem cS {α : Type} {g : α → List PV} {l : List α} {ver e n : Nat} (h : amS g) : cW (some ⟨ver, e, n, emap g l⟩) = True := by
 simp only [cW, emap, Option.some.injEq, eq_iff_iff, iff_true]
 rintro r rfl e he p hp
 simp at he
 obtain ⟨x, _, rfl⟩ := he
 exact List.all_eq_true.1 (h x) p hp
@[simp] theorem aqB {rows : Rows} : CZ rows [] = rows := by funext j; simp [CZ]
@[simp] theorem asL {rows : Rows} {ids : List Nat} {j : Nat} : CZ rows ids j = if j ∈ ids then none else rows j := rfl
def lA (fs : List (Nat × Nat × Bool)) : List (Nat × PV) → List PV → (List PV → Prop) → Prop
 | [], z, K => K z
 | (i, p) :: ps, z, K => eO (kJ fs i) fun q => eO (eD p) fun l => aH (l.length = q.2.1 ∧ q.1 + q.2.1 ≤ z.length) (lA fs ps (z.take q.1 ++ l ++ z.drop (q.1 + q.2.1)) K)
@[congr] theorem afy {fs : List (Nat × Nat × Bool)} {ps QF : List (Nat × PV)} {z z' : List PV} {K : List PV → Prop} (h : ps = QF) (h2 : z = z') : lA fs ps z K = lA fs QF z' K := by rw [h, h2]
@[simp] theorem ak2 {fs : List (Nat × Nat × Bool)} {z : List PV} {K : List PV → Prop} : lA fs [] z K = go (K z) := rfl
@[simp] theorem ahT {fs : List (Nat × Nat × Bool)} {i : Nat} {p : PV} {ps : List (Nat × PV)} {z : List PV} {K : List PV → Prop} : lA fs ((i, p) :: ps) z K = eO (kJ fs i) fun q => eO (eD p) fun l => aH (l.length = q.2.1 ∧ q.1 + q.2.1 ≤ z.length) (lA fs ps (z.take q.1 ++ l ++ z.drop (q.1 + q.2.1)) K) := rfl
theorem zL {fs : List (Nat × Nat × Bool)} : ∀ {ps : List (Nat × PV)} {z : List PV} {K : List PV → Prop}, (∃ l, rH fs ps z = some l ∧ K l) ↔ lA fs ps z K
 | [], z, K => by simp [rH, lA]
 | (i, p) :: ps, z, K => by
  simp only [rH, lA, eO, aH, kJ]
  cases h1 : fs[i]? with
  | none => simp
  | some q =>
   obtain ⟨o, n, b⟩ := q
   cases h2 : eD p with
   | none => simp
   | some l =>
    simp only [Option.some.injEq, exists_eq_left']
    rw [← zL]
    split
    ·rename_i h; simp [h]
    ·rename_i h; simp [h]
def j1 (ti : TI) (ps : List (Nat × PV)) (K : PV → Prop) : Prop :=
 match ti with
 | .struct fs z => lA fs ps z fun l => K (.ag l)
 | .arr _ k n z => lA (LR k n) ps z fun l => K (.ag l)
 | _ => False
@[congr] theorem abY {t t' : TI} {ps QF : List (Nat × PV)} {K : PV → Prop} (h : t = t') (h2 : ps = QF) : j1 t ps K = j1 t' QF K := by rw [h, h2]
@[simp] theorem X0 {fs : List (Nat × Nat × Bool)} {z : List PV} {ps : List (Nat × PV)} {K : PV → Prop} : j1 (.struct fs z) ps K = lA fs ps z fun l => K (.ag l) := rfl
@[simp] theorem afz {e k n : Nat} {z : List PV} {ps : List (Nat × PV)} {K : PV → Prop} : j1 (.arr e k n z) ps K = lA (LR k n) ps z fun l => K (.ag l) := rfl
@[simp] theorem ak3 {k n i : Nat} : kJ (LR k n) i = if i < k then some (i * n, n, false) else none := by
 unfold kJ LR
 rw [List.getElem?_map]
 split
 ·rename_i h; rw [List.getElem?_range h]; rfl
 ·rename_i h; rw [List.getElem?_eq_none (by simpa using h)]; rfl
theorem wS {ti : TI} {ps : List (Nat × PV)} {K : PV → Prop} : aV (fun v => oX ti ps v) K = j1 ti ps K := by
 simp only [oX, j1]
 cases ti with
 | struct fs z =>
  apply propext; simp only [aV]
  rw [← zL]
  constructor
  ·rintro ⟨v, ⟨l, h1, rfl⟩, h2⟩; exact ⟨l, h1, h2⟩
  ·rintro ⟨l, h1, h2⟩; exact ⟨_, ⟨l, h1, rfl⟩, h2⟩
 | arr e k n z =>
  apply propext; simp only [aV]
  rw [← zL]
  constructor
  ·rintro ⟨v, ⟨l, h1, rfl⟩, h2⟩; exact ⟨l, h1, h2⟩
  ·rintro ⟨l, h1, h2⟩; exact ⟨_, ⟨l, h1, rfl⟩, h2⟩
 | _ => simp [aV]
def iF (n : Nat) : Nat → List (Nat × PV) → (List (List PV) → Prop) → Prop
 | _, [], K => K []
 | k, (i, p) :: ps, K => eO (bR p) fun l => aH (i = k ∧ l.length = n) (iF n (k + 1) ps fun els => K (l :: els))
@[congr] theorem acN {n k : Nat} {ps QF : List (Nat × PV)} {K : List (List PV) → Prop} (h : ps = QF) : iF n k ps K = iF n k QF K := by rw [h]
@[simp] theorem ahU {n k : Nat} {K : List (List PV) → Prop} : iF n k [] K = go (K []) := rfl
@[simp] theorem afA {n k i : Nat} {p : PV} {ps : List (Nat × PV)} {K : List (List PV) → Prop} : iF n k ((i, p) :: ps) K = eO (bR p) fun l => aH (i = k ∧ l.length = n) (iF n (k + 1) ps fun els => K (l :: els)) := rfl
theorem u6 {n : Nat} : ∀ {ps : List (Nat × PV)} {k : Nat} {K : List (List PV) → Prop}, (∃ l, fW n k ps = some l ∧ K l) ↔ iF n k ps K
 | [], k, K => by simp [fW, iF]
 | (i, p) :: ps, k, K => by
  simp only [fW, iF, eO, aH]
  cases h2 : bR p with
  | none => simp
  | some l =>
   simp only [Option.some.injEq, exists_eq_left']
   rw [← u6]
   by_cases h : i = k ∧ l.length = n
   ·rw [if_pos h]
    constructor
    ·rintro ⟨e, h1, h3⟩
     obtain ⟨e', h4, rfl⟩ := Option.map_eq_some_iff.1 h1
     exact ⟨h, e', h4, h3⟩
    ·rintro ⟨_, e', h4, h3⟩
     exact ⟨_, by rw [h4]; rfl, h3⟩
   ·rw [if_neg h]; simp [h]
def zM (rows : Rows) (els : List (List PV)) : Prop := (∀ e ∈ els, ∀ p ∈ e, bY (fz rows p) = true ∧ gV rows p) ∧ (∀ e ∈ els, ∀ p ∈ e, a9 p = [])
@[simp] theorem ak4 {rows : Rows} : zM rows [] = True := by simp [zM]
@[simp] theorem ahV {rows : Rows} {e : List PV} {els : List (List PV)} : zM rows (e :: els) = ((∀ p ∈ e, bY (fz rows p) = true ∧ gV rows p ∧ a9 p = []) ∧ zM rows els) := by
 simp only [zM, List.mem_cons, forall_eq_or_imp, eq_iff_iff]
 constructor
 ·rintro ⟨⟨h1, h2⟩, h3, h4⟩; exact ⟨fun p hp => ⟨(h1 p hp).1, (h1 p hp).2, h3 p hp⟩, h2, h4⟩
 ·rintro ⟨h1, h2, h4⟩; exact ⟨⟨fun p hp => ⟨(h1 p hp).1, (h1 p hp).2.1⟩, h2⟩, fun p hp => (h1 p hp).2.2, h4⟩
def tE (ti : TI) (rows : Rows) (len : Nat) (ps : List (Nat × PV)) (K : PV → Prop) : Prop :=
 match ti with
 | .slice _ n _ _ => iF n 0 ps fun els => aH (len = els.length ∧ len ≤ 4096 ∧ n ≤ 4096 ∧ zM rows els) (K (.i3 (els.map fun e => e.map (fz rows))))
 | _ => False
@[congr] theorem afB {t t' : TI} {rows : Rows} {len : Nat} {ps QF : List (Nat × PV)} {K : PV → Prop} (h : t = t') (h2 : ps = QF) : tE t rows len ps K = tE t' rows len QF K := by rw [h, h2]
@[simp] theorem afC {e n b : Nat} {z : List PV} {rows : Rows} {len : Nat} {ps : List (Nat × PV)} {K : PV → Prop} : tE (.slice e n b z) rows len ps K = iF n 0 ps fun els => aH (len = els.length ∧ len ≤ 4096 ∧ n ≤ 4096 ∧ zM rows els) (K (.i3 (els.map fun e => e.map (fz rows)))) := rfl
theorem DA {ti : TI} {rows : Rows} {len : Nat} {ps : List (Nat × PV)} {K : PV → Prop} : aV (fun v => L8 ti rows len ps v) K = tE ti rows len ps K := by
 simp only [L8, tE]
 cases ti with
 | slice e n b z =>
  apply propext; simp only [aV]
  rw [← u6]
  constructor
  ·rintro ⟨v, ⟨l, h1, h2, h3, h4, h5, h6, rfl⟩, h7⟩; exact ⟨l, h1, ⟨h2, h3, h4, h5, h6⟩, h7⟩
  ·rintro ⟨l, h1, ⟨h2, h3, h4, h5, h6⟩, h7⟩; exact ⟨_, ⟨l, h1, h2, h3, h4, h5, h6, rfl⟩, h7⟩
 | _ => simp [aV]
def tF (i : Nat) (x : PV) (K : PV → Prop) : Prop :=
 match x with
 | .dP l => eO (kJ l i) K
 | _ => False
@[congr] theorem afD {i : Nat} {x x' : PV} {K : PV → Prop} (h : x = x') : tF i x K = tF i x' K := by rw [h]
@[simp] theorem ak5 {i : Nat} {l : List PV} {K : PV → Prop} : tF i (.dP l) K = eO (kJ l i) K := rfl
theorem DB {i : Nat} {x : PV} {K : PV → Prop} : aV (fun v => LQ i x v) K = tF i x K := by
 simp only [LQ, tF]
 cases x <;> first | rfl | simp [aV]
def CC : List Oper → Nat → Option Tmp
 | [], _ => none
 | o :: _, 0 => o.dst
 | _ :: os, n + 1 => CC os n
theorem FA : ∀ (ops : List Oper) (j : Nat), CC ops j = (ops[j]?).bind (·.dst)
 | [], j => by simp [CC]
 | o :: os, 0 => by simp [CC]
 | o :: os, n + 1 => by simp [CC, FA os n]
@[simp] theorem ak6 {d : Option Tmp} {op : Op} {ty : TypeId} {pos : String} {af : Array Edge} {g : Option (Nat × Bool)} {os : List Oper} : CC (⟨d, op, ty, pos, af, g⟩ :: os) 0 = d := rfl
@[simp] theorem ak7 {o : Oper} {os : List Oper} {n : Nat} : CC (o :: os) (n + 1) = CC os n := rfl
def nX (o : Option Tmp) (f : Nat → PV) (w : Bool) (A B : Prop) : Prop :=
 match o with
 | none => False
 | some e => stepG (f e) w A B
@[congr] theorem acO {o o' : Option Tmp} {f : Nat → PV} {w : Bool} {A B : Prop} (h : o = o') : nX o f w A B = nX o' f w A B := by rw [h]
@[simp] theorem afE {e : Tmp} {f : Nat → PV} {w : Bool} {A B : Prop} : nX (some e) f w A B = stepG (f e) w A B := rfl
@[simp] theorem ak8 {o : Option Tmp} {f : Nat → PV} {w : Bool} {A B : Prop} : go (nX o f w A B) = nX o f w A B := rfl
section
variable {E : Env} {ops os : List Oper} {K : PS → Prop} {f : Nat → PV} {rows : Rows} {clk : Nat} {d : Option Tmp} {ty : TypeId} {pos : String} {af : Array Edge} {k : Nat} {bN : Nat → Nat → Prop} {aO : Nat → Nat → Prop}
theorem H9 {op : Op} {j : Nat} {want : Bool} : aL E ops (⟨d, op, ty, pos, af, some (j, want)⟩ :: os) K ⟨f, rows, clk⟩ = nX ((ops[j]?).bind (·.dst)) f want (aL E ops (⟨d, op, ty, pos, af, none⟩ :: os) K ⟨f, rows, clk⟩) (aL E ops os K ⟨put f d (.dP []), rows, clk⟩) := MN
theorem IA {op : Op} {j : Nat} {want : Bool} : aN E ops clk k (⟨d, op, ty, pos, af, some (j, want)⟩ :: os) K ⟨f, rows, bN, aO⟩ = nX ((ops[j]?).bind (·.dst)) f want (aN E ops clk k (⟨d, op, ty, pos, af, none⟩ :: os) K ⟨f, rows, bN, aO⟩) (aN E ops clk (k + 1) os K ⟨put f d (.dP []), rows, bN, aO⟩) := MU
end
section
variable {E : Env} {ops os : List Oper} {K : PS → Prop} {f : Nat → PV} {rows : Rows} {clk : Nat} {d : Option Tmp} {ty : TypeId} {pos : String} {af : Array Edge} {k : Nat} {bN : Nat → Nat → Prop} {aO : Nat → Nat → Prop}
theorem M4 {t : TypeId} {x : Operand} : aL E ops (⟨d, .load t x, ty, pos, af, none⟩ :: os) K ⟨f, rows, clk⟩ = jR E t rows (aR f x) fun v => aL E ops os K ⟨put f d v, rows, clk⟩ := by rw [TF, r7]
theorem IB {t : TypeId} {i : Nat} {x : Operand} : aL E ops (⟨d, .field t x i, ty, pos, af, none⟩ :: os) K ⟨f, rows, clk⟩ = i9 (E.ty t) i (aR f x) fun v => aL E ops os K ⟨put f d v, rows, clk⟩ := by rw [MO, wP]
theorem xO {t : TypeId} {i : Nat} {x : Operand} : aL E ops (⟨d, .fieldAddr t x i, ty, pos, af, none⟩ :: os) K ⟨f, rows, clk⟩ = dA (E.ty t) rows i (aR f x) fun v => aL E ops os K ⟨put f d v, rows, clk⟩ := by rw [zF, oL]
theorem xP {t : TypeId} {x y : Operand} : aL E ops (⟨d, .indexAddr t x y, ty, pos, af, none⟩ :: os) K ⟨f, rows, clk⟩ = bU (E.ty t) rows (aR f x) (aR f y) fun v => aL E ops os K ⟨put f d v, rows, clk⟩ := by rw [zG, oM]
theorem IC {t : TypeId} {x : Operand} {lo hi mx : Option Operand} : aL E ops (⟨d, .slice t x lo hi mx, ty, pos, af, none⟩ :: os) K ⟨f, rows, clk⟩ = eS (E.ty t) rows (aR f x) (lo.map (aR f)) (hi.map (aR f)) (mx.map (aR f)) fun v => aL E ops os K ⟨put f d v, rows, clk⟩ := by rw [MP, wR]
theorem TP {t : TypeId} {x : Operand} : aL E ops (⟨d, .call { callee := .builtin .len, args := ⟨[x]⟩, argTypes := ⟨[t]⟩ }, ty, pos, af, none⟩ :: os) K ⟨f, rows, clk⟩ = kN (E.ty t) rows (aR f x) fun v => aL E ops os K ⟨put f d v, rows, clk⟩ := by rw [XO, C8]
theorem ID {t : TypeId} {p x : Operand} : aL E ops (⟨none, .store t p x, ty, pos, af, none⟩ :: os) K ⟨f, rows, clk⟩ = jA E t rows (aR f p) (aR f x) fun id r => aL E ops os K ⟨f, dJ rows id (some r), clk⟩ := by rw [MS, C9]
theorem FB {t t2 : TypeId} {x y : Operand} : aL E ops (⟨d, .call { callee := .builtin .append, args := ⟨[x, y]⟩, argTypes := ⟨[t, t2]⟩ }, ty, pos, af, none⟩ :: os) K ⟨f, rows, clk⟩ =
  aH (t2 = t ∨ WO (E.ty t2) = true) (pE (E.ty t) rows (aR f x) (aR f y) clk (d.getD 0) fun v rows clk => aL E ops os K ⟨put f d v, rows, clk⟩) := by rw [H0, acK]
theorem M5 {t : TypeId} {x : Operand} : aN E ops clk k (⟨d, .load t x, ty, pos, af, none⟩ :: os) K ⟨f, rows, bN, aO⟩ = jR E t (dR .any ops k aO rows) (aR f x) fun v => aN E ops clk (k + 1) os K ⟨put f d v, rows, j7 k (a9 (aR f x)) bN, aO⟩ := by rw [TM, r7]
theorem IE {t : TypeId} {i : Nat} {x : Operand} : aN E ops clk k (⟨d, .field t x i, ty, pos, af, none⟩ :: os) K ⟨f, rows, bN, aO⟩ = i9 (E.ty t) i (aR f x) fun v => aN E ops clk (k + 1) os K ⟨put f d v, rows, bN, aO⟩ := by rw [MV, wP]
theorem xQ {t : TypeId} {i : Nat} {x : Operand} : aN E ops clk k (⟨d, .fieldAddr t x i, ty, pos, af, none⟩ :: os) K ⟨f, rows, bN, aO⟩ = dA (E.ty t) (dR .any ops k aO rows) i (aR f x) fun v => aN E ops clk (k + 1) os K ⟨put f d v, rows, j7 k (a9 (aR f x)) bN, aO⟩ := by rw [zI, oL]
theorem xR {t : TypeId} {x y : Operand} : aN E ops clk k (⟨d, .indexAddr t x y, ty, pos, af, none⟩ :: os) K ⟨f, rows, bN, aO⟩ = bU (E.ty t) (dR .any ops k aO rows) (aR f x) (aR f y) fun v => aN E ops clk (k + 1) os K ⟨put f d v, rows, j7 k (a9 (aR f x)) bN, aO⟩ := by rw [zJ, oM]
theorem IF {t : TypeId} {x : Operand} {lo hi mx : Option Operand} : aN E ops clk k (⟨d, .slice t x lo hi mx, ty, pos, af, none⟩ :: os) K ⟨f, rows, bN, aO⟩ = eS (E.ty t) (dR .any ops k aO rows) (aR f x) (lo.map (aR f)) (hi.map (aR f)) (mx.map (aR f)) fun v => aN E ops clk (k + 1) os K ⟨put f d v, rows, j7 k (a9 (aR f x)) bN, aO⟩ := by rw [MW, wR]
theorem TQ {t : TypeId} {x : Operand} : aN E ops clk k (⟨d, .call { callee := .builtin .len, args := ⟨[x]⟩, argTypes := ⟨[t]⟩ }, ty, pos, af, none⟩ :: os) K ⟨f, rows, bN, aO⟩ = kN (E.ty t) (dR .any ops k aO rows) (aR f x) fun v => aN E ops clk (k + 1) os K ⟨put f d v, rows, j7 k (a9 (aR f x)) bN, aO⟩ := by rw [XT, C8]
theorem IH {t : TypeId} {p x : Operand} : aN E ops clk k (⟨none, .store t p x, ty, pos, af, none⟩ :: os) K ⟨f, rows, bN, aO⟩ =
  jA E t (dR .any ops k aO rows) (aR f p) (aR f x) fun id r => aH (y8 .any ops k id bN) (aN E ops clk (k + 1) os K ⟨f, dJ rows id (some r), j7 k (a9 (aR f p) ++ ((bR (aR f x)).getD []).flatMap a9) bN, nV k id aO⟩) := by rw [MY, ← C9]; rfl
theorem QG {x : Operand} : go (aL E ops (⟨d, .move x, ty, pos, af, none⟩ :: os) K ⟨f, rows, clk⟩) = go (aL E ops os K ⟨put f d (aR f x), rows, clk⟩) := TC
theorem DC {x : Operand} : go (aL E ops (⟨d, .assign x, ty, pos, af, none⟩ :: os) K ⟨f, rows, clk⟩) = go (aL E ops os K ⟨put f d (aR f x), rows, clk⟩) := HZ
theorem acP {c a b : Operand} : go (aL E ops (⟨d, .pick c a b, ty, pos, af, none⟩ :: os) K ⟨f, rows, clk⟩) = gO (aR f c) true (aL E ops os K ⟨put f d (aR f a), rows, clk⟩) (aL E ops os K ⟨put f d (aR f b), rows, clk⟩) := TD
theorem X1 {op : BinOp} {t t2 : TypeId} {x y : Operand} : go (aL E ops (⟨d, .binOp op t x y t2, ty, pos, af, none⟩ :: os) K ⟨f, rows, clk⟩) = aV (fun v => EM E op t (aR f x) (aR f y) v) fun v => aL E ops os K ⟨put f d v, rows, clk⟩ := XN
theorem ana {op : UnOp} {t : TypeId} {x : Operand} : go (aL E ops (⟨d, .unOp op t x, ty, pos, af, none⟩ :: os) K ⟨f, rows, clk⟩) = aV (fun v => yun op (aR f x) v) fun v => aL E ops os K ⟨put f d v, rows, clk⟩ := acE
theorem FD {s t : TypeId} {x : Operand} : go (aL E ops (⟨d, .convert s t x, ty, pos, af, none⟩ :: os) K ⟨f, rows, clk⟩) = aV (fun v => rI (E.ty s) (E.ty t) (aR f x) v) fun v => aL E ops os K ⟨put f d v, rows, clk⟩ := TE
theorem M6 {i : Nat} {x : Operand} : go (aL E ops (⟨d, .extract x i, ty, pos, af, none⟩ :: os) K ⟨f, rows, clk⟩) = tF i (aR f x) fun v => aL E ops os K ⟨put f d v, rows, clk⟩ := by
 show aL E ops (⟨d, .extract x i, ty, pos, af, none⟩ :: os) K ⟨f, rows, clk⟩ = _
 rw [E6, DB]
theorem acQ {t : TypeId} {x : Operand} : go (aL E ops (⟨d, .load t x, ty, pos, af, none⟩ :: os) K ⟨f, rows, clk⟩) = jR E t rows (aR f x) fun v => aL E ops os K ⟨put f d v, rows, clk⟩ := M4
theorem X3 {t : TypeId} {i : Nat} {x : Operand} : go (aL E ops (⟨d, .field t x i, ty, pos, af, none⟩ :: os) K ⟨f, rows, clk⟩) = i9 (E.ty t) i (aR f x) fun v => aL E ops os K ⟨put f d v, rows, clk⟩ := IB
theorem FE {t : TypeId} {i : Nat} {x : Operand} : go (aL E ops (⟨d, .fieldAddr t x i, ty, pos, af, none⟩ :: os) K ⟨f, rows, clk⟩) = dA (E.ty t) rows i (aR f x) fun v => aL E ops os K ⟨put f d v, rows, clk⟩ := xO
theorem FG {t : TypeId} {x y : Operand} : go (aL E ops (⟨d, .indexAddr t x y, ty, pos, af, none⟩ :: os) K ⟨f, rows, clk⟩) = bU (E.ty t) rows (aR f x) (aR f y) fun v => aL E ops os K ⟨put f d v, rows, clk⟩ := xP
theorem X4 {t : TypeId} {x : Operand} {lo hi mx : Option Operand} : go (aL E ops (⟨d, .slice t x lo hi mx, ty, pos, af, none⟩ :: os) K ⟨f, rows, clk⟩) = eS (E.ty t) rows (aR f x) (lo.map (aR f)) (hi.map (aR f)) (mx.map (aR f)) fun v => aL E ops os K ⟨put f d v, rows, clk⟩ := IC
theorem X5 {t : TypeId} {parts : Array (Nat × Operand)} : go (aL E ops (⟨d, .build t parts, ty, pos, af, none⟩ :: os) K ⟨f, rows, clk⟩) = j1 (E.ty t) (parts.toList.map fun x => (x.1, aR f x.2)) fun v => aL E ops os K ⟨put f d v, rows, clk⟩ := by
 show aL E ops (⟨d, .build t parts, ty, pos, af, none⟩ :: os) K ⟨f, rows, clk⟩ = _
 rw [MQ, wS]
theorem II {t : TypeId} {x y : Operand} : go (aL E ops (⟨d, .index t x y, ty, pos, af, none⟩ :: os) K ⟨f, rows, clk⟩) = aV (fun v => rV (E.ty t) (aR f x) (aR f y) v) fun v => aL E ops os K ⟨put f d v, rows, clk⟩ := MR
theorem IJ {x : Operand} : go (aL E ops (⟨d, .nilCheck x, ty, pos, af, none⟩ :: os) K ⟨f, rows, clk⟩) = rP rows (aR f x) fun v => aL E ops os K ⟨put f d v, rows, clk⟩ := by show aL E ops _ K _ = _; rw [B8, C7]
theorem ahW {t : TypeId} {x : Operand} : go (aL E ops (⟨d, .call { callee := .builtin .len, args := ⟨[x]⟩, argTypes := ⟨[t]⟩ }, ty, pos, af, none⟩ :: os) K ⟨f, rows, clk⟩) = kN (E.ty t) rows (aR f x) fun v => aL E ops os K ⟨put f d v, rows, clk⟩ := TP
theorem ahX {ts : Array TypeId} {x y : Operand} : go (aL E ops (⟨d, .call { callee := .builtin .max, args := ⟨[x, y]⟩, argTypes := ts }, ty, pos, af, none⟩ :: os) K ⟨f, rows, clk⟩) = aV (fun v => LS (aR f x) (aR f y) v) fun v => aL E ops os K ⟨put f d v, rows, clk⟩ := XP
theorem ahY {ts : Array TypeId} {x y : Operand} : go (aL E ops (⟨d, .call { callee := .builtin .min, args := ⟨[x, y]⟩, argTypes := ts }, ty, pos, af, none⟩ :: os) K ⟨f, rows, clk⟩) = aV (fun v => LU (aR f x) (aR f y) v) fun v => aL E ops os K ⟨put f d v, rows, clk⟩ := XQ
theorem CD {t : TypeId} {len : Nat} {parts : Array (Nat × Operand)} : go (aL E ops (⟨d, .buildSlice t len parts, ty, pos, af, none⟩ :: os) K ⟨f, rows, clk⟩) = tE (E.ty t) rows len (parts.toList.map fun x => (x.1, aR f x.2)) fun v => aL E ops os K ⟨put f d v, rows, clk⟩ := by
 show aL E ops (⟨d, .buildSlice t len parts, ty, pos, af, none⟩ :: os) K ⟨f, rows, clk⟩ = _
 rw [xM, DA]
theorem X6 {t : TypeId} {p x : Operand} : go (aL E ops (⟨none, .store t p x, ty, pos, af, none⟩ :: os) K ⟨f, rows, clk⟩) = jA E t rows (aR f p) (aR f x) fun id r => aL E ops os K ⟨f, dJ rows id (some r), clk⟩ := ID
theorem X7 {t : TypeId} : go (aL E ops (⟨d, .alloc t, ty, pos, af, none⟩ :: os) K ⟨f, rows, clk⟩) = aH ((E.ty t).known = true) (aL E ops os K ⟨put f d (.ptr (d.getD 0) clk 0 0), dJ rows (d.getD 0) (some ⟨clk, t, (E.ty t).size, [(E.ty t).zero]⟩), clk + 1⟩) := MT
theorem ahZ {t : TypeId} {x : Operand} : go (aL E ops (⟨d, .box t x, ty, pos, af, none⟩ :: os) K ⟨f, rows, clk⟩) = aH ((E.ty t).known = true) (eO (bR (aR f x)) fun l => aH (fY rows l ∧ l.length = (E.ty t).size) (aL E ops os K ⟨put f d (.ptr (d.getD 0) clk 0 0), dJ rows (d.getD 0) (some ⟨clk, t, (E.ty t).size, [l]⟩), clk + 1⟩)) := by
 show aL E ops (⟨d, .box t x, ty, pos, af, none⟩ :: os) K ⟨f, rows, clk⟩ = _
 rw [XR]
 simp only [aH, eO, fY, and_assoc]
theorem FH {t : TypeId} {l c : Operand} : go (aL E ops (⟨d, .makeSlice t l c, ty, pos, af, none⟩ :: os) K ⟨f, rows, clk⟩) = pC (E.ty t) (aR f l) (aR f c) fun e n z x => aL E ops os K ⟨put f d (.own (d.getD 0) clk 0 x.toNat), dJ rows (d.getD 0) (some ⟨clk, e, n, List.replicate x.toNat z⟩), clk + 1⟩ := zH
theorem TR {t t2 : TypeId} {x y : Operand} : go (aL E ops (⟨d, .call { callee := .builtin .append, args := ⟨[x, y]⟩, argTypes := ⟨[t, t2]⟩ }, ty, pos, af, none⟩ :: os) K ⟨f, rows, clk⟩) = aH (t2 = t ∨ WO (E.ty t2) = true) (pE (E.ty t) rows (aR f x) (aR f y) clk (d.getD 0) fun v rows clk => aL E ops os K ⟨put f d v, rows, clk⟩) := FB
theorem acR {fo : Operand} {args : Array Operand} {ts : Array TypeId} : go (aL E ops (⟨d, .call { callee := .value fo, args := args, argTypes := ts }, ty, pos, af, none⟩ :: os) K ⟨f, rows, clk⟩) = pD E (aR f fo) (args.toList.map (aR f)) rows clk fun v rows clk => aL E ops os K ⟨put f d v, rows, clk⟩ := TH
theorem IK {g : FuncId} {cD : Array Operand} : go (aL E ops (⟨d, .makeFunc (.func g) ⟨[]⟩ cD, ty, pos, af, none⟩ :: os) K ⟨f, rows, clk⟩) = aH (((cD.toList.map (aR f)).map (pz rows)).all fA = true ∧ dQ rows ((cD.toList.map (aR f)).flatMap dG))
      (aL E ops os K ⟨put f d (.fn g ((cD.toList.map (aR f)).map (pz rows))), CZ rows ((cD.toList.map (aR f)).flatMap dG), clk⟩) := B9
theorem X8 {op : Op} {j : Nat} {want : Bool} : go (aL E ops (⟨d, op, ty, pos, af, some (j, want)⟩ :: os) K ⟨f, rows, clk⟩) = nX (CC ops j) f want (aL E ops (⟨d, op, ty, pos, af, none⟩ :: os) K ⟨f, rows, clk⟩) (aL E ops os K ⟨put f d (.dP []), rows, clk⟩) := by
 rw [FA, ← H9]; rfl
theorem acS {x : Operand} : go (aN E ops clk k (⟨d, .move x, ty, pos, af, none⟩ :: os) K ⟨f, rows, bN, aO⟩) = go (aN E ops clk (k + 1) os K ⟨put f d (aR f x), rows, bN, aO⟩) := TJ
theorem TS {x : Operand} : go (aN E ops clk k (⟨d, .assign x, ty, pos, af, none⟩ :: os) K ⟨f, rows, bN, aO⟩) = go (aN E ops clk (k + 1) os K ⟨put f d (aR f x), rows, bN, aO⟩) := H4
theorem acT {c a b : Operand} : go (aN E ops clk k (⟨d, .pick c a b, ty, pos, af, none⟩ :: os) K ⟨f, rows, bN, aO⟩) = gO (aR f c) true (aN E ops clk (k + 1) os K ⟨put f d (aR f a), rows, bN, aO⟩) (aN E ops clk (k + 1) os K ⟨put f d (aR f b), rows, bN, aO⟩) := TK
theorem ah0 {op : BinOp} {t t2 : TypeId} {x y : Operand} : go (aN E ops clk k (⟨d, .binOp op t x y t2, ty, pos, af, none⟩ :: os) K ⟨f, rows, bN, aO⟩) = aV (fun v => EM E op t (aR f x) (aR f y) v) fun v => aN E ops clk (k + 1) os K ⟨put f d v, rows, bN, aO⟩ := XS
theorem anb {op : UnOp} {t : TypeId} {x : Operand} : go (aN E ops clk k (⟨d, .unOp op t x, ty, pos, af, none⟩ :: os) K ⟨f, rows, bN, aO⟩) = aV (fun v => yun op (aR f x) v) fun v => aN E ops clk (k + 1) os K ⟨put f d v, rows, bN, aO⟩ := acG
theorem acU {s t : TypeId} {x : Operand} : go (aN E ops clk k (⟨d, .convert s t x, ty, pos, af, none⟩ :: os) K ⟨f, rows, bN, aO⟩) = aV (fun v => rI (E.ty s) (E.ty t) (aR f x) v) fun v => aN E ops clk (k + 1) os K ⟨put f d v, rows, bN, aO⟩ := TL
theorem M7 {i : Nat} {x : Operand} : go (aN E ops clk k (⟨d, .extract x i, ty, pos, af, none⟩ :: os) K ⟨f, rows, bN, aO⟩) = tF i (aR f x) fun v => aN E ops clk (k + 1) os K ⟨put f d v, rows, bN, aO⟩ := by
 show aN E ops clk k (⟨d, .extract x i, ty, pos, af, none⟩ :: os) K ⟨f, rows, bN, aO⟩ = _
 rw [E7, DB]
theorem acV {t : TypeId} {x : Operand} : go (aN E ops clk k (⟨d, .load t x, ty, pos, af, none⟩ :: os) K ⟨f, rows, bN, aO⟩) = jR E t (dR .any ops k aO rows) (aR f x) fun v => aN E ops clk (k + 1) os K ⟨put f d v, rows, j7 k (a9 (aR f x)) bN, aO⟩ := M5
theorem X9 {t : TypeId} {i : Nat} {x : Operand} : go (aN E ops clk k (⟨d, .field t x i, ty, pos, af, none⟩ :: os) K ⟨f, rows, bN, aO⟩) = i9 (E.ty t) i (aR f x) fun v => aN E ops clk (k + 1) os K ⟨put f d v, rows, bN, aO⟩ := IE
theorem FI {t : TypeId} {i : Nat} {x : Operand} : go (aN E ops clk k (⟨d, .fieldAddr t x i, ty, pos, af, none⟩ :: os) K ⟨f, rows, bN, aO⟩) = dA (E.ty t) (dR .any ops k aO rows) i (aR f x) fun v => aN E ops clk (k + 1) os K ⟨put f d v, rows, j7 k (a9 (aR f x)) bN, aO⟩ := xQ
theorem FJ {t : TypeId} {x y : Operand} : go (aN E ops clk k (⟨d, .indexAddr t x y, ty, pos, af, none⟩ :: os) K ⟨f, rows, bN, aO⟩) = bU (E.ty t) (dR .any ops k aO rows) (aR f x) (aR f y) fun v => aN E ops clk (k + 1) os K ⟨put f d v, rows, j7 k (a9 (aR f x)) bN, aO⟩ := xR
theorem YA {t : TypeId} {x : Operand} {lo hi mx : Option Operand} : go (aN E ops clk k (⟨d, .slice t x lo hi mx, ty, pos, af, none⟩ :: os) K ⟨f, rows, bN, aO⟩) = eS (E.ty t) (dR .any ops k aO rows) (aR f x) (lo.map (aR f)) (hi.map (aR f)) (mx.map (aR f)) fun v => aN E ops clk (k + 1) os K ⟨put f d v, rows, j7 k (a9 (aR f x)) bN, aO⟩ := IF
theorem YB {t : TypeId} {parts : Array (Nat × Operand)} : go (aN E ops clk k (⟨d, .build t parts, ty, pos, af, none⟩ :: os) K ⟨f, rows, bN, aO⟩) = j1 (E.ty t) (parts.toList.map fun x => (x.1, aR f x.2)) fun v => aN E ops clk (k + 1) os K ⟨put f d v, rows, bN, aO⟩ := by
 show aN E ops clk k (⟨d, .build t parts, ty, pos, af, none⟩ :: os) K ⟨f, rows, bN, aO⟩ = _
 rw [MX, wS]
theorem IL {x : Operand} : go (aN E ops clk k (⟨d, .nilCheck x, ty, pos, af, none⟩ :: os) K ⟨f, rows, bN, aO⟩) = rP (dR .any ops k aO rows) (aR f x) fun v => aN E ops clk (k + 1) os K ⟨put f d v, rows, j7 k (a9 (aR f x)) bN, aO⟩ := by show aN E ops clk k _ K _ = _; rw [CA, C7]
theorem ah1 {t : TypeId} {x : Operand} : go (aN E ops clk k (⟨d, .call { callee := .builtin .len, args := ⟨[x]⟩, argTypes := ⟨[t]⟩ }, ty, pos, af, none⟩ :: os) K ⟨f, rows, bN, aO⟩) = kN (E.ty t) (dR .any ops k aO rows) (aR f x) fun v => aN E ops clk (k + 1) os K ⟨put f d v, rows, j7 k (a9 (aR f x)) bN, aO⟩ := TQ
theorem ah2 {ts : Array TypeId} {x y : Operand} : go (aN E ops clk k (⟨d, .call { callee := .builtin .max, args := ⟨[x, y]⟩, argTypes := ts }, ty, pos, af, none⟩ :: os) K ⟨f, rows, bN, aO⟩) = aV (fun v => LS (aR f x) (aR f y) v) fun v => aN E ops clk (k + 1) os K ⟨put f d v, rows, bN, aO⟩ := XU
theorem ah3 {ts : Array TypeId} {x y : Operand} : go (aN E ops clk k (⟨d, .call { callee := .builtin .min, args := ⟨[x, y]⟩, argTypes := ts }, ty, pos, af, none⟩ :: os) K ⟨f, rows, bN, aO⟩) = aV (fun v => LU (aR f x) (aR f y) v) fun v => aN E ops clk (k + 1) os K ⟨put f d v, rows, bN, aO⟩ := XV
theorem CE {t : TypeId} {len : Nat} {parts : Array (Nat × Operand)} : go (aN E ops clk k (⟨d, .buildSlice t len parts, ty, pos, af, none⟩ :: os) K ⟨f, rows, bN, aO⟩) = tE (E.ty t) (dR .any ops k aO rows) len (parts.toList.map fun x => (x.1, aR f x.2)) fun v => aN E ops clk (k + 1) os K ⟨put f d v, rows, bN, aO⟩ := by
 show aN E ops clk k (⟨d, .buildSlice t len parts, ty, pos, af, none⟩ :: os) K ⟨f, rows, bN, aO⟩ = _
 rw [xN, DA]
theorem YC {t : TypeId} {p x : Operand} : go (aN E ops clk k (⟨none, .store t p x, ty, pos, af, none⟩ :: os) K ⟨f, rows, bN, aO⟩) = jA E t (dR .any ops k aO rows) (aR f p) (aR f x) fun id r => aH (y8 .any ops k id bN) (aN E ops clk (k + 1) os K ⟨f, dJ rows id (some r), j7 k (a9 (aR f p) ++ ((bR (aR f x)).getD []).flatMap a9) bN, nV k id aO⟩) := IH
theorem YD {t : TypeId} : go (aN E ops clk k (⟨d, .alloc t, ty, pos, af, none⟩ :: os) K ⟨f, rows, bN, aO⟩) = aH ((E.ty t).known = true ∧ y8 .any ops k (d.getD 0) bN) (aN E ops (clk + 1) (k + 1) os K ⟨put f d (.ptr (d.getD 0) clk 0 0), dJ rows (d.getD 0) (some ⟨clk, t, (E.ty t).size, [(E.ty t).zero]⟩), bN, nV k (d.getD 0) aO⟩) := MZ
theorem ah4 {t : TypeId} {x : Operand} : go (aN E ops clk k (⟨d, .box t x, ty, pos, af, none⟩ :: os) K ⟨f, rows, bN, aO⟩) = aH ((E.ty t).known = true) (eO (bR (aR f x)) fun l => aH (fY (fun _ => none) l ∧ l.length = (E.ty t).size ∧ y8 .any ops k (d.getD 0) bN) (aN E ops (clk + 1) (k + 1) os K ⟨put f d (.ptr (d.getD 0) clk 0 0), dJ rows (d.getD 0) (some ⟨clk, t, (E.ty t).size, [l]⟩), bN, nV k (d.getD 0) aO⟩)) := by
 show aN E ops clk k (⟨d, .box t x, ty, pos, af, none⟩ :: os) K ⟨f, rows, bN, aO⟩ = _
 rw [XX]
 simp only [aH, eO, fY]
theorem FK {t : TypeId} {l c : Operand} : go (aN E ops clk k (⟨d, .makeSlice t l c, ty, pos, af, none⟩ :: os) K ⟨f, rows, bN, aO⟩) = pC (E.ty t) (aR f l) (aR f c) fun e n z x => aH (y8 .any ops k (d.getD 0) bN) (aN E ops (clk + 1) (k + 1) os K ⟨put f d (.own (d.getD 0) clk 0 x.toNat), dJ rows (d.getD 0) (some ⟨clk, e, n, List.replicate x.toNat z⟩), bN, nV k (d.getD 0) aO⟩) := zK
def rQ (t : TI) (rows : Rows) (x y : PV) (clk d : Nat) (K : PV → Nat → Row → Prop) : Prop :=
 match t with
 | .slice e n b _ => jJ rows y fun l => aH (bF n l) (match x with
  | .nil => aH (l.length ≤ room ∧ l.length * b ≤ room) (K (.own d clk 0 l.length) d ⟨clk, e, n, l⟩)
  | .own id ver off len => bL (rows id) ver fun r => aH (off = 0 ∧ len = r.els.length ∧ r.e = e ∧ r.size = n) (aH (len + l.length ≤ room ∧ (len + l.length) * b ≤ room) (K (.own id clk 0 (len + l.length)) id ⟨clk, e, n, r.els ++ l⟩))
  | _ => False)
 | _ => False
@[congr] theorem afF {t t' : TI} {rows rows' : Rows} {x x' y y' : PV} {clk d : Nat} {K : PV → Nat → Row → Prop} (h1 : t = t') (h2 : rows = rows') (h3 : x = x') (h4 : y = y') :
  rQ t rows x y clk d K = rQ t' rows' x' y' clk d K := by rw [h1, h2, h3, h4]
@[simp] theorem ak9 {e : TypeId} {n b : Nat} {z : List PV} {rows : Rows} {y : PV} {clk d : Nat} {K : PV → Nat → Row → Prop} : rQ (.slice e n b z) rows .nil y clk d K = jJ rows y fun l => aH (bF n l) (aH (l.length ≤ room ∧ l.length * b ≤ room) (K (.own d clk 0 l.length) d ⟨clk, e, n, l⟩)) := rfl
@[simp] theorem ala {e : TypeId} {n b : Nat} {z : List PV} {rows : Rows} {y : PV} {clk d id ver off len : Nat} {K : PV → Nat → Row → Prop} : rQ (.slice e n b z) rows (.own id ver off len) y clk d K = jJ rows y fun l => aH (bF n l) (bL (rows id) ver fun r => aH (off = 0 ∧ len = r.els.length ∧ r.e = e ∧ r.size = n) (aH (len + l.length ≤ room ∧ (len + l.length) * b ≤ room) (K (.own id clk 0 (len + l.length)) id ⟨clk, e, n, r.els ++ l⟩))) := rfl
@[simp] theorem anc (t : TI) (r : Rows) (x y : PV) (c d : Nat) (K : PV → Nat → Row → Prop) : go (rQ t r x y c d K) = rQ t r x y c d K := rfl
theorem YE {t : TI} {rows : Rows} {x y : PV} {clk d : Nat} {K : PV → Nat → Row → Prop} : (∃ v id r, pA t rows x y clk d v (some (id, r)) ∧ K v id r) = rQ t rows x y clk d K := by
 cases t with
 | slice e n b z =>
  simp only [rQ, pA]
  rw [← QE]
  apply propext
  cases x with
  | nil =>
   simp only [aH, bF]
   constructor
   ·rintro ⟨v, id, r, ⟨l, h1, h2, h3, h4, rfl, h5⟩, h6⟩
    cases h5
    exact ⟨l, h1, h2, ⟨h3, h4⟩, h6⟩
   ·rintro ⟨l, h1, h2, ⟨h3, h4⟩, h6⟩
    exact ⟨_, _, _, ⟨l, h1, h2, h3, h4, rfl, rfl⟩, h6⟩
  | own id ver off len =>
   simp only [aH, bF, bL]
   constructor
   ·rintro ⟨v, iX, r', ⟨l, h1, h2, r, h3, h4, h5, h6, h7, h8, h9, h10, rfl, h11⟩, h12⟩
    cases h11
    exact ⟨l, h1, h2, r, h3, h4, ⟨h5, h6, h7, h8⟩, ⟨h9, h10⟩, h12⟩
   ·rintro ⟨l, h1, h2, r, h3, h4, ⟨h5, h6, h7, h8⟩, ⟨h9, h10⟩, h12⟩
    exact ⟨_, _, _, ⟨l, h1, h2, r, h3, h4, h5, h6, h7, h8, h9, h10, rfl, rfl⟩, h12⟩
  | _ => simp [aH]
 | _ => simp [rQ, pA]
theorem TT {t t2 : TypeId} {x y : Operand} : go (aN E ops clk k (⟨d, .call { callee := .builtin .append, args := ⟨[x, y]⟩, argTypes := ⟨[t, t2]⟩ }, ty, pos, af, none⟩ :: os) K ⟨f, rows, bN, aO⟩) =
  aH (t2 = t ∨ WO (E.ty t2) = true) (rQ (E.ty t) (dR .any ops k aO rows) (aR f x) (aR f y) clk (d.getD 0) fun v id r => aH (y8 .any ops k id bN) (aN E ops (clk + 1) (k + 1) os K ⟨put f d v, dJ rows id (some r), j7 k (a9 (aR f x) ++ a9 (aR f y)) bN, nV k id aO⟩)) := by
 show aN E ops clk k (⟨d, .call { callee := .builtin .append, args := ⟨[x, y]⟩, argTypes := ⟨[t, t2]⟩ }, ty, pos, af, none⟩ :: os) K ⟨f, rows, bN, aO⟩ = _
 rw [H5]
 congr 1
 exact YE
theorem YF {s : Tmp} {args : Array Operand} {ts : Array TypeId} : go (aN E ops clk k (⟨d, .call { callee := .value (.tmp s), args := args, argTypes := ts }, ty, pos, af, none⟩ :: os) K ⟨f, rows, bN, aO⟩) = nW E (f s) (args.toList.map (aR f)) (dR .any ops k aO rows) fun v => aN E ops clk (k + 1) os K ⟨put f d v, rows, bN, aO⟩ := C5 rfl
def qJ (P : Program) (g : FuncId) (args : List PV) (c : Prop) (K : TypeId → Nat → List (List PV) → Prop) : Prop := ∃ e n els, (args.all fA = true ∧ fO P g args e n els ∧ c) ∧ K e n els
@[congr] theorem abZ {P : Program} {g : FuncId} {args H3 : List PV} {c c' : Prop} {K : TypeId → Nat → List (List PV) → Prop} (h : args = H3) (hc : c = c') : qJ P g args c K = qJ P g H3 c' K := by rw [h, hc]
@[simp] theorem ah5 {P : Program} {g : FuncId} {args : List PV} {c : Prop} {K : TypeId → Nat → List (List PV) → Prop} : go (qJ P g args c K) = qJ P g args c K := rfl
theorem zN {P : Program} {g : FuncId} {args : List PV} {c : Prop} {K : TypeId → Nat → List (List PV) → Prop} {e : TypeId} {n : Nat} {els : List (List PV)} (h : fO P g args e n els) (hp : args.all fA = true) (hc : c) (hK : go (K e n els)) : qJ P g args c K := ⟨e, n, els, ⟨hp, h, hc⟩, hK⟩
theorem YH {g : FuncId} {args : Array Operand} {ts : Array TypeId} : go (aN E ops clk k (⟨d, .call { callee := .value (.func g), args := args, argTypes := ts }, ty, pos, af, none⟩ :: os) K ⟨f, rows, bN, aO⟩) =
  if E.writes g = true then qJ E.P g (args.toList.map (aR f)) (y8 .any ops k (d.getD 0) bN) (fun e n els => aN E ops (clk + 1) (k + 1) os K ⟨put f d (.own (d.getD 0) clk 0 els.length), dJ rows (d.getD 0) (some ⟨clk, e, n, els⟩), bN, nV k (d.getD 0) aO⟩)
  else nW E (.fn g []) (args.toList.map (aR f)) (dR .any ops k aO rows) fun v => aN E ops clk (k + 1) os K ⟨put f d v, rows, bN, aO⟩ := by
 split
 ·rename_i hw; exact M0 hw
 ·rename_i hw; exact C5 (by simpa [cZ] using hw)
theorem IM {g : FuncId} {cD : Array Operand} : go (aN E ops clk k (⟨d, .makeFunc (.func g) ⟨[]⟩ cD, ty, pos, af, none⟩ :: os) K ⟨f, rows, bN, aO⟩) = aH ((cD.toList.map fun x => aR f x).all fA = true) (aN E ops clk (k + 1) os K ⟨put f d (.fn g (cD.toList.map fun x => aR f x)), rows, bN, aO⟩) := CB
theorem YI {op : Op} {j : Nat} {want : Bool} : go (aN E ops clk k (⟨d, op, ty, pos, af, some (j, want)⟩ :: os) K ⟨f, rows, bN, aO⟩) = nX (CC ops j) f want (aN E ops clk k (⟨d, op, ty, pos, af, none⟩ :: os) K ⟨f, rows, bN, aO⟩) (aN E ops clk (k + 1) os K ⟨put f d (.dP []), rows, bN, aO⟩) := by
 rw [FA, ← IA]; rfl
theorem YJ {σ : PS} : go (aL E ops [] K σ) = K σ := rfl
theorem ah6 {st : ST} : go (aN E ops clk k [] K st) = go (K ⟨st.f, st.rows, clk⟩) := rfl
@[simp] theorem QH {s : Nat} : aR f (.tmp s) = f s := rfl
@[simp] theorem anf {g : FuncId} : aR f (.func g) = .fn g [] := rfl
@[simp] theorem TU {v : Value} : aR f (.const v) = mK v := rfl
end
@[simp] theorem ah7 {k : IntKind} {n : Int} : mK (.int k n) = .int k n := rfl
@[simp] theorem afG {b : Bool} : mK (.bool b) = .bool b := rfl
@[simp] theorem M8 {s : ByteArray} : mK (.string s) = .str s := rfl
@[simp] theorem afH : mK (.pointer none) = .iW := rfl
@[simp] theorem afI : iD (.pointer none) = .iW := rfl
@[simp] theorem ah8 : mK (.slice none 0 0) = .nil := rfl
@[simp] theorem ah9 {cs : List Value} : mK (.agg ⟨cs⟩) = .ag (cs.map iD) := rfl
@[simp] theorem aia {k : IntKind} {n : Int} : iD (.int k n) = .int k n := rfl
@[simp] theorem afJ {b : Bool} : iD (.bool b) = .bool b := rfl
@[simp] theorem aib {s : ByteArray} : iD (.string s) = .str s := rfl
@[simp] theorem aic : iD (.slice none 0 0) = .nil := rfl
@[simp] theorem ang (R K : PV → Prop) : go (aV R K) = aV R K := rfl
@[simp] theorem anh (p : PV) (w : Bool) (A B : Prop) : go (stepG p w A B) = stepG p w A B := rfl
@[simp] theorem ani (p : PV) (w : Bool) (A B : Prop) : go (gO p w A B) = gO p w A B := rfl
@[simp] theorem anj (A B : Prop) : go (aH A B) = aH A B := rfl
@[simp] theorem ank (P : Program) (g : FuncId) (l : List PV) (K : PV → Prop) : go (tB P g l K) = tB P g l K := rfl
@[simp] theorem aid (o : Option Row) (v : Nat) (K : Row → Prop) : go (bL o v K) = bL o v K := rfl
@[simp] theorem asN (l : List (List PV)) (i : Nat) (K : List PV → Prop) : go (C6 l i K) = C6 l i K := rfl
@[simp] theorem asO (t : TI) (l : List PV) (j : Nat) (K : PV → Prop) : go (wO t l j K) = wO t l j K := rfl
@[simp] theorem alc (E : Env) (t : TypeId) (r : Rows) (p : PV) (K : PV → Prop) : go (jR E t r p K) = jR E t r p K := rfl
@[simp] theorem aie (t : TI) (i : Nat) (x : PV) (K : PV → Prop) : go (i9 t i x K) = i9 t i x K := rfl
@[simp] theorem aqC (p : Nat × Nat × Bool) (l : List PV) (K : PV → Prop) : go (E8 p l K) = E8 p l K := rfl
@[simp] theorem anl (r : Rows) (x : PV) (K : PV → Prop) : go (rP r x K) = rP r x K := rfl
@[simp] theorem YK (t : TI) (r : Rows) (i : Nat) (x : PV) (K : PV → Prop) : go (dA t r i x K) = dA t r i x K := rfl
@[simp] theorem YL (t : TI) (r : Rows) (x y : PV) (K : PV → Prop) : go (bU t r x y K) = bU t r x y K := rfl
@[simp] theorem asP (d : Nat) (o : Option PV) (K : Nat → Prop) : go (wQ d o K) = wQ d o K := rfl
@[simp] theorem aif (t : TI) (r : Rows) (x : PV) (a b c : Option PV) (K : PV → Prop) : go (eS t r x a b c K) = eS t r x a b c K := rfl
@[simp] theorem anm (t : TI) (r : Rows) (x : PV) (K : PV → Prop) : go (kN t r x K) = kN t r x K := rfl
@[simp] theorem aih (E : Env) (t : TypeId) (r : Rows) (p x : PV) (K : Nat → Row → Prop) : go (jA E t r p x K) = jA E t r p x K := rfl
@[simp] theorem ann (r : Rows) (y : PV) (K : List (List PV) → Prop) : go (jJ r y K) = jJ r y K := rfl
@[simp] theorem ano (t : TI) (r : Rows) (x y : PV) (c d : Nat) (K : PV → Rows → Nat → Prop) : go (pE t r x y c d K) = pE t r x y c d K := rfl
@[simp] theorem anp (t : TI) (x y : PV) (K : TypeId → Nat → List PV → Int → Prop) : go (pC t x y K) = pC t x y K := rfl
@[simp] theorem ald (E : Env) (p : PV) (l : List PV) (r : Rows) (clk : Nat) (K : PV → Rows → Nat → Prop) : go (pD E p l r clk K) = pD E p l r clk K := rfl
@[simp] theorem anq (P : Program) (g : FuncId) (l : List PV) (r : Rows) (clk : Nat) (K : PV → Rows → Nat → Prop) : go (wF P g l r clk K) = wF P g l r clk K := rfl
@[simp] theorem ale (E : Env) (p : PV) (l : List PV) (r : Rows) (K : PV → Prop) : go (nW E p l r K) = nW E p l r K := rfl
@[simp] theorem anr {fs : List (Nat × Nat × Bool)} {ps : List (Nat × PV)} {z : List PV} {K : List PV → Prop} : go (lA fs ps z K) = lA fs ps z K := rfl
@[simp] theorem aii {t : TI} {ps : List (Nat × PV)} {K : PV → Prop} : go (j1 t ps K) = j1 t ps K := rfl
@[simp] theorem alf {n k : Nat} {ps : List (Nat × PV)} {K : List (List PV) → Prop} : go (iF n k ps K) = iF n k ps K := rfl
@[simp] theorem ans {t : TI} {rows : Rows} {len : Nat} {ps : List (Nat × PV)} {K : PV → Prop} : go (tE t rows len ps K) = tE t rows len ps K := rfl
@[simp] theorem ant {i : Nat} {x : PV} {K : PV → Prop} : go (tF i x K) = tF i x K := rfl
@[simp] theorem aqD {α : Type} (o : Option α) (K : α → Prop) : go (eO o K) = eO o K := rfl
@[simp] theorem avz {α : Type} (p : α → Prop) : go (∃ x, p x) = ∃ x, go (p x) := rfl
@[simp] theorem anu : go False = False := rfl
@[simp] theorem avA {p : Prop} : go (go p) = go p := rfl
@[simp] theorem afK {t : PV} {K : PV → Prop} : aV (fun v => v = t) K = go (K t) := i7
@[simp] theorem asQ {t : PV} {K : PV → Prop} : aV (fun v => t = v) K = go (K t) := TB
@[simp] theorem acW {B : Prop} : aH True B = go B := ML
@[simp] theorem avB {A B : Prop} : stepG (.bool true) true A B = go A := XG
@[simp] theorem avC {A B : Prop} : stepG (.bool true) false A B = go B := XH
@[simp] theorem avD {A B : Prop} : stepG (.bool false) true A B = go B := XI
@[simp] theorem avE {A B : Prop} : stepG (.bool false) false A B = go A := XJ
@[simp] theorem avF {w : Bool} {A B : Prop} : stepG (.dP []) w A B = go B := XK
@[simp] theorem avG {A B : Prop} : gO (.bool true) true A B = go A := XD
@[simp] theorem avH {A B : Prop} : gO (.bool true) false A B = go B := XE
@[simp] theorem avI {A B : Prop} : gO (.bool false) true A B = go B := XF
@[simp] theorem avJ {A B : Prop} : gO (.bool false) false A B = go A := XL
theorem gA {c B : Prop} (h : c) : aH c B = go B := by simp [aH, go, h]
attribute [simp] iN XC zE XM ahG MM E5 QG DC acP X1 ana FD M6 acQ X3 FE FG X4 X5 II IJ IL ahW ahX ahY CD X6 X7 ahZ FH TR acR IK X8 acS TS acT ah0 anb acU M7 acV X9 FI FJ YA YB ah1 ah2 ah3 CE YC YD ah4 FK TT YF YH IM YI YJ ah6
attribute [simp] WO EM yun rI rV LS LU pC pD nW rH TI.known TI.size TI.zero TI.agg W6 acD HX room
theorem CF {E : Env} {ops : List Oper} {K : PS → Prop} {f : Nat → PV} {rows : Rows} {clk : Nat} : fD E 0 ops K ⟨f, rows, clk⟩ = aN E ops clk 0 ops K ⟨f, rows, fun _ _ => False, fun _ _ => False⟩ := by simp [fD]
@[simp] theorem alg {b : Bool} : fA (.bool b) = true := rfl
@[simp] theorem aij {b : Bool} : bY (.bool b) = true := rfl
@[simp] theorem alh {b : Bool} : a9 (.bool b) = [] := rfl
@[simp] theorem ali {rows : Rows} {b : Bool} : gV rows (.bool b) = True := rfl
@[simp] theorem afL {b : Bool} : bR (.bool b) = some [.bool b] := rfl
@[simp] theorem afM {b : Bool} : eD (.bool b) = some [.bool b] := rfl
@[simp] theorem anv {k : IntKind} {n : Int} : fA (.int k n) = true := rfl
@[simp] theorem alj {k : IntKind} {n : Int} : bY (.int k n) = true := rfl
@[simp] theorem anw {k : IntKind} {n : Int} : a9 (.int k n) = [] := rfl
@[simp] theorem anx {rows : Rows} {k : IntKind} {n : Int} : gV rows (.int k n) = True := rfl
@[simp] theorem aik {k : IntKind} {n : Int} : bR (.int k n) = some [.int k n] := rfl
@[simp] theorem ail {k : IntKind} {n : Int} : eD (.int k n) = some [.int k n] := rfl
@[simp] theorem anz {s : ByteArray} : fA (.str s) = true := rfl
@[simp] theorem alk {s : ByteArray} : bY (.str s) = true := rfl
@[simp] theorem anA {s : ByteArray} : a9 (.str s) = [] := rfl
@[simp] theorem anB {rows : Rows} {s : ByteArray} : gV rows (.str s) = True := rfl
@[simp] theorem aim {s : ByteArray} : bR (.str s) = some [.str s] := rfl
@[simp] theorem ain {s : ByteArray} : eD (.str s) = some [.str s] := rfl
@[simp] theorem alm  : fA .iW = true := rfl
@[simp] theorem aio  : bY .iW = true := rfl
@[simp] theorem aln  : a9 .iW = [] := rfl
@[simp] theorem alp  : dG .iW = [] := rfl
@[simp] theorem aqE {rows : Rows} : fz rows .iW = .iW := rfl
@[simp] theorem aqF {rows : Rows} : pz rows .iW = .iW := rfl
@[simp] theorem alq {rows : Rows}  : gV rows .iW = True := rfl
@[simp] theorem afN  : bR .iW = some [.iW] := rfl
@[simp] theorem afO  : eD .iW = some [.iW] := rfl
@[simp] theorem anC  : fA .nil = true := rfl
@[simp] theorem alr  : bY .nil = true := rfl
@[simp] theorem anD  : a9 .nil = [] := rfl
@[simp] theorem anE {rows : Rows}  : gV rows .nil = True := rfl
@[simp] theorem aip  : bR .nil = some [.nil] := rfl
@[simp] theorem aiq  : eD .nil = some [.nil] := rfl
@[simp] theorem aqG {l : List (List PV)} : fA (.sl l) = true := rfl
@[simp] theorem anF {l : List (List PV)} : bY (.sl l) = true := rfl
@[simp] theorem aqH {l : List (List PV)} : a9 (.sl l) = [] := rfl
@[simp] theorem aqI {rows : Rows} {l : List (List PV)} : gV rows (.sl l) = True := rfl
@[simp] theorem als {l : List (List PV)} : bR (.sl l) = some [.sl l] := rfl
@[simp] theorem alu {l : List (List PV)} : eD (.sl l) = some [.sl l] := rfl
@[simp] theorem anG {l : List (List PV)} : fA (.i3 l) = true := rfl
@[simp] theorem alv {l : List (List PV)} : bY (.i3 l) = true := rfl
@[simp] theorem anH {l : List (List PV)} : a9 (.i3 l) = [] := rfl
@[simp] theorem anI {rows : Rows} {l : List (List PV)} : gV rows (.i3 l) = True := rfl
@[simp] theorem air {l : List (List PV)} : bR (.i3 l) = some [.i3 l] := rfl
@[simp] theorem ais {l : List (List PV)} : eD (.i3 l) = some [.i3 l] := rfl
@[simp] theorem acX {l : List PV} : fA (.rd l) = true := rfl
@[simp] theorem YM {l : List PV} : bY (.rd l) = true := rfl
@[simp] theorem acY {l : List PV} : a9 (.rd l) = [] := rfl
@[simp] theorem aqJ {rows : Rows} {l : List PV} : gV rows (.rd l) = True := rfl
@[simp] theorem alw {l : List PV} : bR (.rd l) = some [.rd l] := rfl
@[simp] theorem alx {l : List PV} : eD (.rd l) = some [.rd l] := rfl
@[simp] theorem aqK {f : FuncId} {l : List PV} : fA (.fn f l) = true := rfl
@[simp] theorem anJ {f : FuncId} {l : List PV} : bY (.fn f l) = true := rfl
@[simp] theorem aqL {f : FuncId} {l : List PV} : a9 (.fn f l) = [] := rfl
@[simp] theorem aqM {rows : Rows} {f : FuncId} {l : List PV} : gV rows (.fn f l) = True := rfl
@[simp] theorem aly {f : FuncId} {l : List PV} : bR (.fn f l) = some [.fn f l] := rfl
@[simp] theorem alz {f : FuncId} {l : List PV} : eD (.fn f l) = some [.fn f l] := rfl
@[simp] theorem aqN {l : List PV} : fA (.ag l) = l.all bY := rfl
@[simp] theorem anK {l : List PV} : fA (.dP l) = true := rfl
@[simp] theorem alA {l : List PV} : bR (.ag l) = some l := rfl
@[simp] theorem alB {l : List PV} : eD (.ag l) = some l := rfl
@[simp] theorem anL {id v o l : Nat} : a9 (.own id v o l) = [id] := rfl
@[simp] theorem anM {id v o l : Nat} : a9 (.ptr id v o l) = [id] := rfl
@[simp] theorem ait {id v o l : Nat} : bR (.own id v o l) = some [.own id v o l] := rfl
@[simp] theorem aiu {id v o l : Nat} : bR (.ptr id v o l) = some [.ptr id v o l] := rfl
def rowAt (o : Option Row) (ver : Nat) : Prop := ∃ r, o = some r ∧ r.ver = ver
@[simp] theorem aiv {r : Row} {ver : Nat} : rowAt (some r) ver = (r.ver = ver) := by simp [rowAt]
@[simp] theorem anN {rows : Rows} {id v o l : Nat} : gV rows (.own id v o l) = rowAt (rows id) v := rfl
@[simp] theorem anO {rows : Rows} {id v o l : Nat} : gV rows (.ptr id v o l) = rowAt (rows id) v := rfl
@[simp] theorem alC {e l : List PV} {j : Nat} : iO [e] 0 j l = [e.take j ++ l ++ e.drop (j + l.length)] := by simp [iO]
@[simp] theorem alD {e : List PV} {n : Nat} : tD [e] 0 n = (n ≤ e.length) := by simp [tD]
@[simp] theorem alE {E : Env} {σ : PS} {t : Tmp} {rs : List ResultVar} {K : List PV → Prop} : oK E σ (.tmp t :: rs) K = oK E σ rs fun vs => K (σ.f t :: vs) := rfl
@[simp] theorem alF {E : Env} {σ : PS} {K : List PV → Prop} : oK E σ [] K = K [] := rfl
@[simp] theorem aiw {E : Env} {σ : PS} {a : Tmp} {t : TypeId} {rs : List ResultVar} {K : List PV → Prop} : oK E σ (.cell a t :: rs) K = jR E t σ.rows (σ.f a) fun v => oK E σ rs fun vs => K (v :: vs) := by
 show (∃ v, rG E t σ.rows (σ.f a) v ∧ oK E σ rs fun vs => K (v :: vs)) = _
 rw [← r7]; rfl
@[simp] theorem acZ {E : Env} {ops : List Oper} {K : PS → Prop} {f : Nat → PV} {rows : Rows} {clk : Nat} : go (fD E 0 ops K ⟨f, rows, clk⟩) = go (aN E ops clk 0 ops K ⟨f, rows, fun _ _ => False, fun _ _ => False⟩) := CF
theorem wrap_i64 {n : Int} (h1 : -9223372036854775808 ≤ n) (h2 : n < 9223372036854775808) : IntKind.i64.wrap n = n := by
 have e : IntKind.i64.wrap n = if n % 18446744073709551616 ≥ 9223372036854775808 then n % 18446744073709551616 - 18446744073709551616 else n % 18446744073709551616 := by
  simp [IntKind.wrap, IntKind.bits, IntKind.signed]
 rw [e]
 split <;> omega
theorem wrap_u64 {n : Int} (h1 : 0 ≤ n) (h2 : n < 18446744073709551616) : IntKind.u64.wrap n = n := by
 simp only [IntKind.wrap, IntKind.bits, IntKind.signed, Bool.false_and, Bool.false_eq_true, if_false]
 omega
theorem wrap_u32 {n : Int} (h1 : 0 ≤ n) (h2 : n < 4294967296) : IntKind.u32.wrap n = n := by
 simp only [IntKind.wrap, IntKind.bits, IntKind.signed, Bool.false_and, Bool.false_eq_true, if_false]
 omega
theorem wA : (∀ n : Int, -9223372036854775808 ≤ n → n < 9223372036854775808 → IntKind.i64.wrap n = n) ∧ (∀ n : Int, 0 ≤ n → n < 18446744073709551616 → IntKind.u64.wrap n = n) ∧ (∀ n : Int, 0 ≤ n → n < 4294967296 → IntKind.u32.wrap n = n) ∧
  (∀ a b : Int, 0 ≤ a → a.tdiv b = a / b) ∧ (∀ a b : Int, 0 ≤ a → a.tmod b = a % b) := ⟨fun _ => wrap_i64, fun _ => wrap_u64, fun _ => wrap_u32, fun _ _ h => Int.tdiv_eq_ediv_of_nonneg h, fun _ _ h => Int.tmod_eq_emod_of_nonneg h⟩
theorem gw : (∀ {c B : Prop}, c → aH c B = go B) ∧ (∀ n : Int, -9223372036854775808 ≤ n → n < 9223372036854775808 → IntKind.i64.wrap n = n) ∧ (∀ n : Int, 0 ≤ n → n < 18446744073709551616 → IntKind.u64.wrap n = n) ∧ (∀ n : Int, 0 ≤ n → n < 4294967296 → IntKind.u32.wrap n = n) ∧
  (∀ a b : Int, 0 ≤ a → a.tdiv b = a / b) ∧ (∀ a b : Int, 0 ≤ a → a.tmod b = a % b) := ⟨gA, wA⟩
theorem wrap_u8 {n : Int} (h1 : 0 ≤ n) (h2 : n < 256) : IntKind.u8.wrap n = n := by
 simp only [IntKind.wrap, IntKind.bits, IntKind.signed, Bool.false_and, Bool.false_eq_true, if_false]
 omega
theorem iP {n : Int} : IntKind.u64.wrap n = n % 18446744073709551616 := by
 simp only [IntKind.wrap, IntKind.bits, IntKind.signed, Bool.false_and, Bool.false_eq_true, if_false]
 rfl
theorem wrap_u32' {n : Int} : IntKind.u32.wrap n = n % 4294967296 := by
 simp only [IntKind.wrap, IntKind.bits, IntKind.signed, Bool.false_and, Bool.false_eq_true, if_false]
 rfl
section
variable {E : Env} {n : Nat} {tl : Nat → Nat} {Q : PX → PS → Prop} {σ : PS}
theorem W.cB {id : Nat} {ops : List Oper} (h : ∀ K : PS → Prop, (∀ σ, Q .normal σ → K σ) → go (aL E ops ops K σ)) : W E n tl (.region id ops.toArray false) Q σ := W.HY h
theorem W.M9 {id : Nat} {ops : List Oper} (h : ∀ K : PS → Prop, (∀ σ, Q .normal σ → K σ) → go (fD E (tl id) ops K σ)) : W E n tl (.region id ops.toArray true) Q σ := W.W9 h
theorem W.dH {id : Nat} {ops : List Oper} {y : Code} (h : ∀ K : PS → Prop, (∀ σ, W E n tl y Q σ → K σ) → go (aL E ops ops K σ)) : W E n tl (.seq (.region id ops.toArray false) y) Q σ := W.MJ h
theorem W.YN {id : Nat} {ops : List Oper} {y : Code} (h : ∀ K : PS → Prop, (∀ σ, W E n tl y Q σ → K σ) → go (fD E (tl id) ops K σ)) : W E n tl (.seq (.region id ops.toArray true) y) Q σ := W.XA h
end
section
variable {E : Env} {n : Nat} {tl : Nat → Nat} {Q : PX → PS → Prop} {σ : PS}
theorem W.bE {c : Code} (I : Nat → PS → Prop) (k : Nat) (h0 : ∃ σ0, Gh n σ σ0 ∧ I k σ0) (h1 : ∀ k σ, I k σ → W E n tl c (B6 (fun σ' => ∃ m σ'', Gh n σ' σ'' ∧ m < k ∧ I m σ'') Q) σ) : W E n tl (.loop c) Q σ := by
 obtain ⟨σ0, hg, h0⟩ := h0
 refine W.ghost hg ?_
 refine W.loop (fun k σ => ∃ σ', Gh n σ σ' ∧ I k σ') k ⟨σ0, fun _ _ _ _ _ h => h, h0⟩ ?_
 rintro k σ ⟨σ', hg, hI⟩
 refine W.ghost hg (W.mono (h1 k σ' hI) fun x τ hx => ?_)
 cases x with
 | normal => obtain ⟨m, σ'', h2, h3, h4⟩ := hx; exact ⟨m, h3, σ'', h2, h4⟩
 | exit id => exact hx
 | ret => exact hx
theorem Gh.refl : Gh n σ σ := fun _ _ _ _ _ h => h
theorem W.YO {c : Operand} {t e : Code} (b : Prop) [Decidable b] (hc : aR σ.f c = .bool (decide b)) (h1 : b → W E n tl t Q σ) (h2 : ¬ b → W E n tl e Q σ) : W E n tl (.cond c t e) Q σ := W.cond ⟨_, hc, fun h => h1 (of_decide_eq_true h), fun h => h2 (of_decide_eq_false h)⟩
theorem W.ghf {f : Nat → PV} {rows : Rows} {clk : Nat} {c : Code} (l : List (Nat × PV)) (hl : ∀ p ∈ l, f p.1 = p.2) (h : W E n tl c Q ⟨fa l, rows, clk⟩) : W E n tl c Q ⟨f, rows, clk⟩ := by
 have := aC (f := f) (rows := rows) (clk := clk) n (l.map (·.1))
 have e : ((l.map (·.1)).map fun i => (i, f i)) = l := by
  rw [List.map_map]
  conv => rhs; rw [← List.map_id l]
  exact List.map_congr_left fun p hp => by simp [hl p hp]
 rw [e] at this
 exact W.ghost this h
theorem Gh.fr {f : Nat → PV} {rows : Rows} {clk : Nat} (l : List (Nat × PV)) (hl : ∀ p ∈ l, f p.1 = p.2) : Gh n ⟨f, rows, clk⟩ ⟨fa l, rows, clk⟩ := by
 have := aC (f := f) (rows := rows) (clk := clk) n (l.map (·.1))
 have e : ((l.map (·.1)).map fun i => (i, f i)) = l := by
  rw [List.map_map]
  conv => rhs; rw [← List.map_id l]
  exact List.map_congr_left fun p hp => by simp [hl p hp]
 rw [e] at this
 exact this
end
theorem aB {E : Env} {C4 : FuncId} {fn : Func} {code : Code} (tl : Nat → Nat) {args : List PV} {r : PV} (l : List (Nat × PV)) (h1 : E.P.funcs[C4]? = some fn) (h2 : fn.body = some code) (h3 : (fn.name == "runtime.NumGoroutine") = false)
  (fM : eE E fn.ntmps tl code = true) (fR : args.length ≤ fn.ntmps) (hl : ∀ p ∈ l, args.getD p.1 .undef = p.2) (h : W E fn.ntmps tl code (acD E fn.results.toList r) ⟨fa l, fun _ => none, 0⟩) : aI E.P C4 args r :=
 XB tl h1 h2 h3 fM fR (W.ghf l (by simpa using hl) h)
end Pm
namespace Pm
@[simp] theorem aqO {a : Int} : Int.fdiv a 4294967296 = a / 4294967296 := Int.fdiv_eq_ediv_of_nonneg a (by decide)
@[simp] theorem aqP {a : Int} : Int.fdiv a 9223372036854775808 = a / 9223372036854775808 := Int.fdiv_eq_ediv_of_nonneg a (by decide)
attribute [simp] Go.IntKind.bits
end Pm
namespace Pm
open Go Go.RowKit
section
variable {E : Env} {n : Nat} {tl : Nat → Nat} {Q : PX → PS → Prop} {σ : PS}
theorem W.fI {x y : Code} (J : PS → Prop) (h : W E n tl x (B6 (fun σ => ∃ σ', Gh n σ σ' ∧ J σ') Q) σ) (hy : ∀ σ, J σ → W E n tl y Q σ) : W E n tl (.seq x y) Q σ :=
 W.seq (W.mono h fun x σ hx => by
  cases x with
  | normal => obtain ⟨σ', hg, hJ⟩ := hx; exact W.ghost hg (hy σ' hJ)
  | exit id => exact hx
  | ret => exact hx)
def NA (J : PS → Prop) (Q : PX → PS → Prop) : PX → PS → Prop
 | .normal, σ => J σ
 | .exit id, σ => Q (.exit id) σ
 | .ret, σ => Q .ret σ
theorem W.fE {id : Nat} {x y : Code} (J : PS → Prop) (h : W E n tl x (B7 id (NA (fun σ => ∃ σ', Gh n σ σ' ∧ J σ') Q)) σ) (hy : ∀ σ, J σ → W E n tl y Q σ) : W E n tl (.seq (.block id x) y) Q σ :=
 W.seq (W.block (W.mono h fun x σ hx => by
  cases x with
  | normal => obtain ⟨σ', hg, hJ⟩ := hx; exact W.ghost hg (hy σ' hJ)
  | exit j =>
   simp only [B7] at hx ⊢
   split
   ·rename_i hj; rw [if_pos hj] at hx; obtain ⟨σ', hg, hJ⟩ := hx; exact W.ghost hg (hy σ' hJ)
   ·rename_i hj; rw [if_neg hj] at hx; exact hx
  | ret => exact hx))
theorem W.gX {id : Nat} {ops : List Oper} {y : Code} (J : PS → Prop) (h : ∀ K : PS → Prop, (∀ σ σ', Gh n σ σ' → J σ' → K σ) → go (aL E ops ops K σ)) (hy : ∀ σ, J σ → W E n tl y Q σ) : W E n tl (.seq (.region id ops.toArray false) y) Q σ :=
 W.dH fun K hK => h K fun σ _ hg hJ => hK σ (W.ghost hg (hy _ hJ))
theorem W.afP {id : Nat} {ops : List Oper} {y : Code} (J : PS → Prop) (h : ∀ K : PS → Prop, (∀ σ σ', Gh n σ σ' → J σ' → K σ) → go (fD E (tl id) ops K σ)) (hy : ∀ σ, J σ → W E n tl y Q σ) : W E n tl (.seq (.region id ops.toArray true) y) Q σ :=
 W.YN fun K hK => h K fun σ _ hg hJ => hK σ (W.ghost hg (hy _ hJ))
@[simp] theorem afQ {J : PS → Prop} : NA J Q .normal σ = J σ := rfl
@[simp] theorem anP {J : PS → Prop} : NA J Q .ret σ = Q .ret σ := rfl
@[simp] theorem alG {J : PS → Prop} {id : Nat} : NA J Q (.exit id) σ = Q (.exit id) σ := rfl
@[simp] theorem afR {J : PS → Prop} : B6 J Q .normal σ = J σ := rfl
@[simp] theorem anQ {J : PS → Prop} : B6 J Q .ret σ = Q .ret σ := rfl
@[simp] theorem alH {J : PS → Prop} {id : Nat} : B6 J Q (.exit id) σ = Q (.exit id) σ := rfl
@[simp] theorem afS {id : Nat} : B7 id Q .normal σ = Q .normal σ := rfl
@[simp] theorem anR {id : Nat} : B7 id Q .ret σ = Q .ret σ := rfl
@[simp] theorem alI {id j : Nat} : B7 id Q (.exit j) σ = if j = id then Q .normal σ else Q (.exit j) σ := rfl
theorem pX : (∀ (Q : PX → PS → Prop) (σ : PS) (id j : Nat), B7 id Q (.exit j) σ = if j = id then Q .normal σ else Q (.exit j) σ) ∧ (∀ (Q : PX → PS → Prop) (σ : PS) (id : Nat), B7 id Q .normal σ = Q .normal σ) ∧ (∀ (Q : PX → PS → Prop) (σ : PS) (id : Nat), B7 id Q .ret σ = Q .ret σ) ∧
  (∀ (J : PS → Prop) (Q : PX → PS → Prop) (σ : PS) (id : Nat), B6 J Q (.exit id) σ = Q (.exit id) σ) ∧ (∀ (J : PS → Prop) (Q : PX → PS → Prop) (σ : PS), B6 J Q .normal σ = J σ) ∧ (∀ (J : PS → Prop) (Q : PX → PS → Prop) (σ : PS), B6 J Q .ret σ = Q .ret σ) ∧
  (∀ (J : PS → Prop) (Q : PX → PS → Prop) (σ : PS) (id : Nat), NA J Q (.exit id) σ = Q (.exit id) σ) ∧ (∀ (J : PS → Prop) (Q : PX → PS → Prop) (σ : PS), NA J Q .normal σ = J σ) ∧ (∀ (J : PS → Prop) (Q : PX → PS → Prop) (σ : PS), NA J Q .ret σ = Q .ret σ) :=
 ⟨fun _ _ _ _ => rfl, fun _ _ _ => rfl, fun _ _ _ => rfl, fun _ _ _ _ => rfl, fun _ _ _ => rfl, fun _ _ _ => rfl, fun _ _ _ _ => rfl, fun _ _ _ => rfl, fun _ _ _ => rfl⟩
end
end Pm
namespace Pm
open Go
theorem anS {P : Program} {g : FuncId} {fH : List PV} {rows : Rows} {clk : Nat} {K : PV → Rows → Nat → Prop} {R : PV → Rows → Nat → Prop} (h : SV P g fH rows clk R) (hK : ∀ r rows' jP, R r rows' jP → go (K r rows' jP)) : wF P g fH rows clk K := ⟨R, h, hK⟩
theorem aA {P : Program} {g : FuncId} {args : List PV} {K : PV → Prop} {v : PV} (h : aI P g args v) (hK : go (K v)) : tB P g args K := ⟨v, h, hK⟩
theorem W.YP {E : Env} {n : Nat} {tl : Nat → Nat} {c : Code} {Q : PX → PS → Prop} {f : Nat → PV} {rows : Rows} {clk : Nat} (l : List Nat) (h : ∀ K : PS → Prop, (∀ σ, W E n tl c Q σ → K σ) → K ⟨fa (l.map fun i => (i, f i)), rows, clk⟩) : W E n tl c Q ⟨f, rows, clk⟩ := W.live l (h _ fun _ h => h)
theorem W.lv {E : Env} {n : Nat} {tl : Nat → Nat} {c : Code} {Q : PX → PS → Prop} {f : Nat → PV} {rows : Rows} {clk : Nat} {K0 : PS → Prop} (l : List Nat) (hK : ∀ σ, W E n tl c Q σ → K0 σ) (h : ∀ K : PS → Prop, (∀ σ, W E n tl c Q σ → K σ) → K ⟨fa (l.map fun i => (i, f i)), rows, clk⟩) : K0 ⟨f, rows, clk⟩ := hK _ (W.YP l h)
inductive Bx (P : PS → Prop) : Type
  | mk
def aW {P : PS → Prop} (_ : Bx P) (σ : PS) : Prop := P σ
theorem W.lw {E : Env} {n : Nat} {tl : Nat → Nat} {c : Code} {Q : PX → PS → Prop} {f : Nat → PV} {rows : Rows} {clk : Nat} {K0 : PS → Prop} (l : List Nat) (hK : ∀ σ, W E n tl c Q σ → K0 σ) (h : aW (Bx.mk (P := W E n tl c Q)) ⟨fa (l.map fun i => (i, f i)), rows, clk⟩) : K0 ⟨f, rows, clk⟩ := hK _ (W.YP l fun _ q => q _ h)
theorem W.lx {E : Env} {n : Nat} {tl : Nat → Nat} {c : Code} {Q : PX → PS → Prop} {f : Nat → PV} {rows : Rows} {clk : Nat} (l : List Nat) (h : aW (Bx.mk (P := W E n tl c Q)) ⟨fa (l.map fun i => (i, f i)), rows, clk⟩) : aW (Bx.mk (P := W E n tl c Q)) ⟨f, rows, clk⟩ := W.YP l fun _ q => q _ h
theorem W.sr {E : Env} {n : Nat} {tl : Nat → Nat} {Q : PX → PS → Prop} {σ : PS} {id : Nat} {ops : List Oper} {y : Code} (h : go (aL E ops ops (aW (Bx.mk (P := W E n tl y Q))) σ)) : W E n tl (.seq (.region id ops.toArray false) y) Q σ := by
  refine W.seq ?_
  intro fM w0 S0 G a w Q' hR hQ
  simp only [eE, pB, Bool.and_eq_true] at fM
  refine wp_region_list (fX (fun σ' a' w' hk j6 => hQ .normal σ' a' w' hk j6) _ σ a w (fun o ho t ht => ?_) h hR)
  have := Array.all_eq_true_iff_forall_mem.1 fM.1 o (by simpa using ho)
  simpa [ht] using this
theorem W.sd {E : Env} {n : Nat} {tl : Nat → Nat} {Q : PX → PS → Prop} {σ : PS} {id : Nat} {ops : List Oper} {y : Code} (h : go (fD E (tl id) ops (aW (Bx.mk (P := W E n tl y Q))) σ)) : W E n tl (.seq (.region id ops.toArray true) y) Q σ := by
  refine W.seq ?_
  intro fM w0 S0 G a w Q' hR hQ
  exact rN (by simpa [eE] using fM) h hR fun σ' a' w' hk j6 => hQ .normal σ' a' w' hk j6
end Pm
namespace Pm
open Go Go.RowKit
def Wk (p q : PV) : Prop := q = p ∨ (p = .nil ∧ q = .sl [])
theorem Wk.rep {c : Cx} {p q : PV} {v : Value} (h : Wk p q) (hr : aQ c p v) : aQ c q v := by
 rcases h with rfl | ⟨rfl, rfl⟩
 ·exact hr
 ·simp only [aQ, cP] at hr ⊢
  exact ⟨none, 0, by simpa using hr, by simp, by simp, .inl trivial⟩
theorem bB.flat {α β : Type} {R : α → β → Prop} : ∀ {l : List (List α)} {m : List (List β)}, bB (bB R) l m → bB R l.flatten m.flatten
 | [], [], _ => trivial
 | a :: l, b :: m, h => by
  obtain ⟨h1, h2⟩ := h
  have ih := bB.flat h2
  clear h2
  induction a generalizing b with
  | nil => cases b with
   | nil => exact ih
   | cons => exact h1.elim
  | cons x a iha => cases b with
   | nil => exact h1.elim
   | cons y b => exact ⟨h1.1, iha b h1.2⟩
theorem aix {n id ver e m clk : Nat} {f : Nat → PV} {rows : Rows} {els EV : List (List PV)} (hr : rows id = some ⟨ver, e, m, els⟩) (hw : bB (bB fun q p => Wk p q) EV els) : Gh n ⟨f, rows, clk⟩ ⟨f, dJ rows id (some ⟨ver, e, m, EV⟩), clk⟩ := by
 rintro w0 S0 G a w ⟨⟨c, rfl, tG, eY, hI, hf, hG⟩, h7, h8⟩
 have jL : c.rows id = some ⟨ver, e, m, els⟩ := by rw [tG]; exact hr
 obtain ⟨⟨xs, g1, g2, g3⟩, g4, g5, g6⟩ := hI.row id _ jL
 have hlen : EV.length = els.length := hw.length
 obtain ⟨uR, hA⟩ := hI.dJ (w' := c.w) (r' := ⟨ver, e, m, EV⟩) (xs := xs) jL (World.grownBy.refl _ _) (by simp only [hlen]; exact g1)
  (by
   have h1 := bB.flat hw
   have : ∀ {l : List PV} {k : List PV} {vs : List Value}, bB (fun q p => Wk p q) l k → bB (aQ c) k vs → bB (aQ c) l vs := by
    intro l
    induction l with
    | nil => intro k vs h h'; cases k with
     | nil => exact h'
     | cons => exact h.elim
    | cons x l ih => intro k vs h h'; cases k with
     | nil => exact h.elim
     | cons y k => cases vs with
      | nil => exact h'.elim
      | cons v vs => exact ⟨h.1.rep h'.1, ih h.2 h'.2⟩
   exact this h1 g2) g3 (fun el nP => by
   obtain ⟨k, hk⟩ := List.getElem?_of_mem nP
   obtain ⟨b, hb, h1⟩ := hw.get hk
   rw [h1.length]
   exact g4 b (List.mem_of_getElem? hb)) rfl rfl hlen
 refine ⟨⟨{ c with rows := dJ c.rows id (some ⟨ver, e, m, EV⟩) }, rfl, by simp [tG], eY, uR, fun s => aK.rT hA _ _ (hf s), fun p hp => aK.rT hA _ _ (hG p hp)⟩, h7, h8⟩
theorem aiy {n s id e m clk : Nat} {f : Nat → PV} {rows : Rows} (hs : f s = .nil) (hm : 0 < m) : Gh n ⟨f, rows, clk⟩ ⟨put f (some s) (.own id clk 0 0), dJ rows id (some ⟨clk, e, m, []⟩), clk + 1⟩ := by
 rintro w0 S0 G a w ⟨⟨c, rfl, tG, eY, hI, hf, hG⟩, h7, h8⟩
 obtain ⟨uR, hA⟩ := hI.set (w' := c.w) (ob := none) (id := id) (r' := ⟨clk, e, m, []⟩) (v' := .slice none 0 0) (xs := []) (World.grownBy.refl _ _) (by simp) ⟨by simp, .inl ⟨rfl, rfl⟩⟩ (by simp [bB]) (by simp) (by simp) hm (by simp [Value.ownBlock]) (fun hu => Nat.lt_irrefl _ (eY _ hu))
 refine ⟨⟨{ c with β := dJ c.β id (.slice none 0 0), rows := dJ c.rows id (some ⟨clk, e, m, []⟩), used := fun v => v = clk ∨ c.used v }, rfl, by simp [tG], fun v hv => by
  show v < clk + 1
  rcases hv with rfl | hv
  ·omega
  ·have : v < clk := eY v hv
   omega, uR, fun t => ?_, fun p hp => aK.rT hA _ _ (hG p hp)⟩, h7, h8⟩
 simp only [put]
 split
 ·rename_i ht
  subst ht
  have h1 := hf t
  simp only at h1
  rw [hs] at h1
  simp only [aK, aQ, cP] at h1
  simp only [aK, aQ]
  refine ⟨.inl (by first | rfl | trivial), fun r hr hv => ?_⟩
  simp only [fV, Option.some.injEq] at hr
  subst hr
  exact ⟨by simp, .inl ⟨trivial, none, 0, 0, by simp [dJ], h1⟩⟩
 ·exact aK.rT hA _ _ (hf t)
theorem IP {α β : Type} {R : α → β → Prop} {x : α} {y : β} (h : R x y) : ∀ k : Nat, bB R (List.replicate k x) (List.replicate k y)
 | 0 => trivial
 | k + 1 => ⟨h, IP h k⟩
section
variable {E : Env} {n : Nat} {tl : Nat → Nat} {Q : PX → PS → Prop} {c : Code} {f : Nat → PV} {rows : Rows} {clk : Nat}
theorem W.row {id ver e m : Nat} {els : List (List PV)} (EV : List (List PV)) (hr : rows id = some ⟨ver, e, m, els⟩) (hw : bB (bB fun q p => Wk p q) EV els) (h : W E n tl c Q ⟨f, dJ rows id (some ⟨ver, e, m, EV⟩), clk⟩) : W E n tl c Q ⟨f, rows, clk⟩ := W.ghost (aix hr hw) h
theorem W.nil (s id e m : Nat) (hs : f s = .nil) (hm : 0 < m) (h : ∀ K : PS → Prop, (∀ σ, W E n tl c Q σ → K σ) → K ⟨put f (some s) (.own id clk 0 0), dJ rows id (some ⟨clk, e, m, []⟩), clk + 1⟩) : W E n tl c Q ⟨f, rows, clk⟩ := W.ghost (aiy hs hm) (h _ fun _ h => h)
end
def fzP (o : Option Row) (ver i j : Nat) : PV :=
 match o with
 | some r => if r.ver = ver then .rd ((r.els.getD i []).drop j) else .undef
 | none => .undef
@[simp] theorem asS {rows : Rows} {id ver i j : Nat} : fz rows (.ptr id ver i j) = fzP (rows id) ver i j := rfl
@[simp] theorem asT {rows : Rows} {id ver i j : Nat} : pz rows (.ptr id ver i j) = fzP (rows id) ver i j := rfl
@[simp] theorem aqQ {ver e n : Nat} {el : List PV} : fzP (some ⟨ver, e, n, [el]⟩) ver 0 0 = .rd el := by simp [fzP]
@[simp] theorem anT {id ver i j : Nat} : dG (.ptr id ver i j) = [id] := rfl
@[simp] theorem afT {ver e n : Nat} {el : List PV} : cW (some ⟨ver, e, n, [el]⟩) = ∀ p ∈ el, bY p = true := by simp [cW]
end Pm
namespace Pm
open Go
theorem dU {E : Env} {m : Nat} {ops : List Oper} {K : PS → Prop} {f : Nat → PV} {rows : Rows} {clk : Nat} : go (fD E (m + 1) ops K ⟨f, rows, clk⟩) = go (aN E ops clk 0 (ops.take (ops.length - (m + 1))) (aL E ops (ops.drop (ops.length - (m + 1))) K) ⟨f, rows, fun _ _ => False, fun _ _ => False⟩) := by
 simp [fD]
end Pm
namespace Pm
open Go Go.RowKit
def FL (rows : Rows) (id : Nat) : PV → PV
 | .own i ver off len => if i = id then fz rows (.own i ver off len) else .own i ver off len
 | .ptr i ver a j => if i = id then fz rows (.ptr i ver a j) else .ptr i ver a j
 | p => p
def FM (rows : Rows) (id : Nat) : PV → PV
 | .ag l => .ag (l.map (FL rows id))
 | p => FL rows id p
theorem FN {w0 : World} {S0 : dF} {c : Cx} (hI : Inv w0 S0 c) {id : Nat} (hp : ∀ r, c.rows id = some r → ∀ e ∈ r.els, ∀ p ∈ e, bY p = true) {p : PV} {v : Value} (h : aQ c p v) : aQ (BT c [id]) (FL c.rows id p) v := by
 have uP : ∀ i ∈ [id], ∀ r, c.rows i = some r → ∀ e ∈ r.els, ∀ p ∈ e, bY p = true := by intro i hi; simp at hi; subst hi; exact hp
 have key : ∀ q : PV, aQ c q v → (∀ i ∈ a9 q, i ∈ [id]) → (fz c.rows q = .undef ∨ bY (fz c.rows q) = true) → aQ (BT c [id]) (fz c.rows q) v := by
  intro q hq hi ho
  rcases ho with ho | ho
  ·rw [ho]; simp [aQ]
  ·exact aQ.i4 (ET hI uP hq hi ho)
 cases p with
 | own i ver off len =>
  simp only [FL]
  split
  ·rename_i hi
   subst hi
   refine key _ h (by simp [a9]) ?_
   simp only [fz]
   cases c.rows i with
   | none => exact .inl rfl
   | some r =>
    simp only
    split
    ·exact .inr rfl
    ·exact .inl rfl
  ·exact aQ.rT (kQ c [id]) _ _ h
 | ptr i ver a j =>
  simp only [FL]
  split
  ·rename_i hi
   subst hi
   refine key _ h (by simp [a9]) ?_
   simp only [fz]
   cases c.rows i with
   | none => exact .inl rfl
   | some r =>
    simp only
    split
    ·exact .inr rfl
    ·exact .inl rfl
  ·exact aQ.rT (kQ c [id]) _ _ h
 | _ => exact aQ.rT (kQ c [id]) _ _ h
theorem QI {w0 : World} {S0 : dF} {c : Cx} (hI : Inv w0 S0 c) {id : Nat} (hp : ∀ r, c.rows id = some r → ∀ e ∈ r.els, ∀ p ∈ e, bY p = true) {p : PV} {v : Value} (h : aK c p v) : aK (BT c [id]) (FM c.rows id p) v := by
 cases p with
 | ag l =>
  obtain ⟨vs, h1, h2⟩ := h
  refine ⟨vs, h1, bB.c7 (by simp [h2.length]) fun k a b ha hb => ?_⟩
  simp at ha
  obtain ⟨q, hq, rfl⟩ := ha
  obtain ⟨b', yP, hr⟩ := h2.get hq
  rw [hb] at yP; cases yP
  exact FN hI hp hr
 | _ =>
  simp only [aK] at h
  have := FN hI hp h
  simp only [FM]
  exact (by
   first
    | (simp only [FL, aK] at this ⊢; exact this)
    | (simp only [FL] at this ⊢
       split
       · rename_i hi; rw [if_pos hi] at this; simp only [fz] at this ⊢; revert this; split <;> (try split) <;> exact fun h => h
       · rename_i hi; rw [if_neg hi] at this; exact this))
theorem DE {rows : Rows} {id : Nat} : FM rows id .undef = .undef := rfl
theorem YQ {l : List (Nat × PV)} {g : PV → PV} (hg : g .undef = .undef) : (fun s => g (fa l s)) = fa (l.map fun p => (p.1, g p.2)) := by
 funext s
 induction l with
 | nil => exact hg
 | cons p l ih =>
  obtain ⟨i, v⟩ := p
  simp only [fa, List.map_cons]
  split
  ·rfl
  ·exact ih
theorem TV {n clk : Nat} {l : List (Nat × PV)} {rows : Rows} (id : Nat) (hp : cW (rows id)) : Gh n ⟨fa l, rows, clk⟩ ⟨fa (l.map fun p => (p.1, FM rows id p.2)), CZ rows [id], clk⟩ := by
 rintro w0 S0 G a w ⟨⟨c, rfl, tG, eY, hI, hf, hG⟩, h7, h8⟩
 have YR : c.rows = rows := tG
 subst YR
 refine ⟨⟨BT c [id], rfl, rfl, eY, hI.freeze [id], fun s => ?_, fun p hp => aK.rT (kQ c [id]) _ _ (hG p hp)⟩, h7, h8⟩
 rw [← YQ (g := FM c.rows id) DE]
 exact QI hI hp (hf s)
theorem W.freeze {E : Env} {n : Nat} {tl : Nat → Nat} {Q : PX → PS → Prop} {c : Code} {l : List (Nat × PV)} {rows : Rows} {clk : Nat} (id : Nat) (hp : cW (rows id)) (h : ∀ K : PS → Prop, (∀ σ, W E n tl c Q σ → K σ) → K ⟨fa (l.map fun p => (p.1, FM rows id p.2)), CZ rows [id], clk⟩) : W E n tl c Q ⟨fa l, rows, clk⟩ := W.ghost (TV id hp) (h _ fun _ h => h)
@[simp] theorem aqR {rows : Rows} {id i ver off len : Nat} : FM rows id (.own i ver off len) = if i = id then fzR (rows i) ver off len else .own i ver off len := rfl
@[simp] theorem aqS {rows : Rows} {id i ver a j : Nat} : FM rows id (.ptr i ver a j) = if i = id then fzP (rows i) ver a j else .ptr i ver a j := rfl
@[simp] theorem aqT {α : Type} {g : α → List PV} {rows : Rows} {id : Nat} {l : List α} : FM rows id (aJ g l) = aJ g l := rfl
@[simp] theorem aqU {rows : Rows} {id : Nat} {k : IntKind} {n : Int} : FM rows id (.int k n) = .int k n := rfl
@[simp] theorem anU {rows : Rows} {id : Nat} {b : Bool} : FM rows id (.bool b) = .bool b := rfl
@[simp] theorem aqV {rows : Rows} {id : Nat} : FM rows id .nil = .nil := rfl
@[simp] theorem asU {rows : Rows} {id : Nat} {l : List (List PV)} : FM rows id (.sl l) = .sl l := rfl
@[simp] theorem aqW {rows : Rows} {id : Nat} {l : List (List PV)} : FM rows id (.i3 l) = .i3 l := rfl
@[simp] theorem asV {rows : Rows} {id : Nat} {l : List PV} : FM rows id (.ag l) = .ag (l.map (FL rows id)) := rfl
@[simp] theorem aqX {rows : Rows} {id : Nat} {k : IntKind} {n : Int} : FL rows id (.int k n) = .int k n := rfl
@[simp] theorem anV {rows : Rows} {id : Nat} {b : Bool} : FL rows id (.bool b) = .bool b := rfl
@[simp] theorem aqY {rows : Rows} {id : Nat} : FL rows id .nil = .nil := rfl
@[simp] theorem aqZ {α : Type} {g : α → List PV} {rows : Rows} {id : Nat} {l : List α} : FL rows id (aJ g l) = aJ g l := rfl
theorem ac1 {n s clk : Nat} {f : Nat → PV} {rows : Rows} (q : PV) (hs : f s = .nil) (hq : q = .sl []) : Gh n ⟨f, rows, clk⟩ ⟨put f (some s) q, rows, clk⟩ := by
 rintro w0 S0 G a w ⟨⟨c, rfl, tG, eY, hI, hf, hG⟩, h7, h8⟩
 refine ⟨⟨c, rfl, tG, eY, hI, fun t => ?_, hG⟩, h7, h8⟩
 simp only [put]
 split
 ·rename_i ht
  subst ht
  have h1 := hf t
  simp only at h1
  rw [hs] at h1
  subst hq
  simp only [aK] at h1 ⊢
  exact Wk.rep (.inr ⟨rfl, rfl⟩) h1
 ·exact hf t
theorem W.TW {E : Env} {n : Nat} {tl : Nat → Nat} {Q : PX → PS → Prop} {c : Code} {f : Nat → PV} {rows : Rows} {clk : Nat} (s : Nat) (q : PV) (hs : f s = .nil) (hq : q = .sl []) (h : ∀ K : PS → Prop, (∀ σ, W E n tl c Q σ → K σ) → K ⟨put f (some s) q, rows, clk⟩) : W E n tl c Q ⟨f, rows, clk⟩ := W.ghost (ac1 q hs hq) (h _ fun _ h => h)
theorem ac2 {c : Cx} {l : List (List PV)} {v : Value} (hr : aQ c (.i3 l) v) : aQ c (.sl l) v := by
 simp only [aQ, cP] at hr ⊢
 obtain ⟨a, h1, h2, h3⟩ := hr
 exact ⟨a, l.length, h1, Nat.le_refl _, h2, h3⟩
theorem ac3 {n s clk : Nat} {f : Nat → PV} {rows : Rows} (l : List (List PV)) (q : PV) (hs : f s = .i3 l) (hq : q = .sl l) : Gh n ⟨f, rows, clk⟩ ⟨put f (some s) q, rows, clk⟩ := by
 rintro w0 S0 G a w ⟨⟨c, rfl, tG, eY, hI, hf, hG⟩, h7, h8⟩
 refine ⟨⟨c, rfl, tG, eY, hI, fun t => ?_, hG⟩, h7, h8⟩
 simp only [put]
 split
 ·rename_i ht
  subst ht
  have h1 := hf t
  simp only at h1
  rw [hs] at h1
  subst hq
  simp only [aK] at h1 ⊢
  exact ac2 h1
 ·exact hf t
theorem W.asW {E : Env} {n : Nat} {tl : Nat → Nat} {Q : PX → PS → Prop} {c : Code} {f : Nat → PV} {rows : Rows} {clk : Nat} (s : Nat) (l : List (List PV)) (q : PV) (hs : f s = .i3 l) (hq : q = .sl l) (h : ∀ K : PS → Prop, (∀ σ, W E n tl c Q σ → K σ) → K ⟨put f (some s) q, rows, clk⟩) : W E n tl c Q ⟨f, rows, clk⟩ := W.ghost (ac3 l q hs hq) (h _ fun _ h => h)
def zO (rows : Rows) (id : Nat) : Option Row → Option Row
 | some r => some { r with els := r.els.map fun e => e.map (FL rows id) }
 | none => none
def pF (rows : Rows) (id : Nat) : Rows := fun j => if j = id then none else zO rows id (rows j)
@[simp] theorem aq0 {rows : Rows} {id j : Nat} : pF rows id j = if j = id then none else zO rows id (rows j) := rfl
@[simp] theorem afU {rows : Rows} {id v e n : Nat} {els : List (List PV)} : zO rows id (some ⟨v, e, n, els⟩) = some ⟨v, e, n, els.map fun e => e.map (FL rows id)⟩ := rfl
@[simp] theorem afV {rows : Rows} {id : Nat} : zO rows id none = none := rfl
@[simp] theorem aq1 {rows : Rows} {id i ver off len : Nat} : FL rows id (.own i ver off len) = if i = id then fzR (rows i) ver off len else .own i ver off len := rfl
@[simp] theorem aq2 {rows : Rows} {id i ver a j : Nat} : FL rows id (.ptr i ver a j) = if i = id then fzP (rows i) ver a j else .ptr i ver a j := rfl
theorem NB {n clk : Nat} {l : List (Nat × PV)} {rows : Rows} (id : Nat) (hp : cW (rows id)) : Gh n ⟨fa l, rows, clk⟩ ⟨fa (l.map fun p => (p.1, FM rows id p.2)), pF rows id, clk⟩ := by
 rintro w0 S0 G a w ⟨⟨c, rfl, tG, eY, hI, hf, hG⟩, h7, h8⟩
 have YR : c.rows = rows := tG
 subst YR
 have HO := hI.freeze [id]
 have live : ∀ {j : Nat} {r' : Row}, pF c.rows id j = some r' → j ≠ id ∧ ∃ r, c.rows j = some r ∧ r' = { r with els := r.els.map fun e => e.map (FL c.rows id) } := by
  intro j r' h
  simp only [pF] at h
  split at h
  ·cases h
  ·rename_i hj
   cases hr : c.rows j with
   | none => rw [hr] at h; cases h
   | some r => rw [hr] at h; simp only [zO, Option.some.injEq] at h; exact ⟨hj, r, rfl, h.symm⟩
 have hA : rS (BT c [id]) { BT c [id] with rows := pF c.rows id } := by
  refine ⟨fun _ _ h => h, fun _ _ _ => rfl, fun _ h => h, fun j r' h => ?_⟩
  obtain ⟨hj, r, hr, rfl⟩ := live h
  exact .inr ⟨r, by simp [BT, CZ, hj, hr], rfl, rfl, by simp, rfl⟩
 have hI2 : Inv w0 S0 { BT c [id] with rows := pF c.rows id } := by
  refine ⟨HO.below, HO.ext, HO.new, HO.lt0, fun j r' h => ?_, fun j r' h => ?_, fun i j r s g hr hs => ?_⟩
  ·obtain ⟨hj, r, hr, rfl⟩ := live h
   exact hI.clock j r hr
  ·obtain ⟨hj, r, hr, rfl⟩ := live h
   obtain ⟨⟨xs, g1, g2, g3⟩, g4, g5, g6⟩ := hI.row j r hr
   obtain ⟨_, _, f5, _⟩ := HO.row j r (by simp [BT, CZ, hj, hr])
   refine ⟨⟨xs, by rw [List.length_map]; exact g1, ?_, g3⟩, fun e he => ?_, f5, g6⟩
   ·show bB _ (List.flatten (r.els.map fun e => e.map (FL c.rows id))) xs
    rw [← List.map_flatten]
    refine bB.c7 (by rw [List.length_map]; exact g2.length) fun k p u uP hu => ?_
    rw [List.getElem?_map] at uP
    obtain ⟨q, hq, rfl⟩ := Option.map_eq_some_iff.1 uP
    obtain ⟨u', SR, jL⟩ := g2.get hq
    rw [hu] at SR; cases SR
    exact aQ.rT hA _ _ (FN hI hp jL)
   ·simp only [List.mem_map] at he
    obtain ⟨e', s0, rfl⟩ := he
    simpa using g4 e' s0
  ·obtain ⟨hi, r1, CG, rfl⟩ := live hr
   obtain ⟨hj, r2, cO, rfl⟩ := live hs
   exact hI.apart i j r1 r2 g CG cO
 refine ⟨⟨{ BT c [id] with rows := pF c.rows id }, rfl, rfl, eY, hI2, fun s => ?_, fun p hp => aK.rT hA _ _ (aK.rT (kQ c [id]) _ _ (hG p hp))⟩, h7, h8⟩
 show aK _ (fa (l.map fun p => (p.1, FM c.rows id p.2)) s) _
 rw [← YQ (g := FM c.rows id) DE]
 exact aK.rT hA _ _ (QI hI hp (hf s))
theorem W.qK {E : Env} {n : Nat} {tl : Nat → Nat} {Q : PX → PS → Prop} {c : Code} {l : List (Nat × PV)} {rows : Rows} {clk : Nat} (id : Nat) (hp : cW (rows id)) (h : ∀ K : PS → Prop, (∀ σ, W E n tl c Q σ → K σ) → K ⟨fa (l.map fun p => (p.1, FM rows id p.2)), pF rows id, clk⟩) : W E n tl c Q ⟨fa l, rows, clk⟩ := W.ghost (NB id hp) (h _ fun _ h => h)
end Pm
