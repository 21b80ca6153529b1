import Derived.Test.YtbbjgncblhfegaaGreatAac
set_option linter.unusedSimpArgs false
set_option linter.unusedVariables false
namespace Pm
open Go Go.RowKit
def emap {α : Type} (g : α → List PV) (l : List α) : List (List PV) := l.map g
def aJ {α : Type} (g : α → List PV) (l : List α) : PV := .sl (emap g l)
def nth {α : Type} [Inhabited α] (l : List α) (i : Nat) : α := l[i]?.getD default
def Enc {α : Type} (g : α → List PV) (n : Nat) : Prop := ∀ x, (g x).length = n
def amU {α : Type} (g : α → List PV) : Prop := ∀ x, (g x).all bY = true
def bJ (o : Option Row) (ver : Nat) (K : Row → Prop) : Prop := ∃ r, o = some r ∧ r.ver = ver ∧ K r
@[congr] theorem abY {o o' : Option Row} {ver : Nat} {K : Row → Prop} (h : o = o') : bJ o ver K = bJ o' ver K := by rw [h]
@[simp] theorem acM {r : Row} {ver : Nat} {K : Row → Prop} : bJ (some r) ver K = aH (r.ver = ver) (K r) := by simp [bJ, aH]
def CS (els : List (List PV)) (i : Nat) (K : List PV → Prop) : Prop := ∃ el, els[i]? = some el ∧ K el
@[congr] theorem akG {l l' : List (List PV)} {i i' : Nat} {K : List PV → Prop} (h : l = l') (hi : i = i') : CS l i K = CS l' i' K := by rw [h, hi]
@[simp] theorem HV {α : Type} [Inhabited α] {g : α → List PV} {l : List α} {i : Nat} {K : List PV → Prop} : CS (emap g l) i K = aH (i < l.length) (K (g (nth l i))) := by
 simp only [CS, emap, aH, nth]
 apply propext
 constructor
 ·rintro ⟨el, h1, h2⟩
  simp at h1
  obtain ⟨x, h1, rfl⟩ := h1
  have := (List.getElem?_eq_some_iff.1 h1).1
  rw [h1]
  exact ⟨this, h2⟩
 ·rintro ⟨h1, h2⟩
  rw [List.getElem?_eq_getElem h1] at h2
  exact ⟨g l[i], by simp [h1], h2⟩
@[simp] theorem amV {e : List PV} {es : List (List PV)} {K : List PV → Prop} : CS (e :: es) 0 K = go (K e) := by show _ = K e; simp [CS]
@[simp] theorem amW {e : List PV} {es : List (List PV)} {i : Nat} {K : List PV → Prop} : CS (e :: es) (i + 1) K = CS es i K := by simp [CS]
def kJ {α : Type} (l : List α) (i : Nat) : Option α := l[i]?
@[simp] theorem akH {α : Type} {x : α} {l : List α} : kJ (x :: l) 0 = some x := rfl
@[simp] theorem akI {α : Type} {x : α} {l : List α} {n : Nat} : kJ (x :: l) (n + 1) = kJ l n := rfl
def eK {α : Type} (o : Option α) (K : α → Prop) : Prop := ∃ v, o = some v ∧ K v
@[congr] theorem ahP {α : Type} {o o' : Option α} {K : α → Prop} (h : o = o') : eK o K = eK o' K := by rw [h]
@[simp] theorem akJ {α : Type} {x : α} {K : α → Prop} : eK (some x) K = go (K x) := by show _ = K x; simp [eK]
def wD (ti : TI) (l : List PV) (j : Nat) (K : PV → Prop) : Prop := if ti.agg = true then aH (j + ti.size ≤ l.length) (K (.ag ((l.drop j).take ti.size))) else eK (kJ l j) K
@[congr] theorem akK {t t' : TI} {l l' : List PV} {j : Nat} {K : PV → Prop} (h1 : t = t') (h2 : l = l') : wD t l j K = wD t' l' j K := by rw [h1, h2]
@[simp] theorem aqt {k : IntKind} {l : List PV} {j : Nat} {K : PV → Prop} : wD (.int k) l j K = eK (kJ l j) K := by simp [wD, TI.agg]
@[simp] theorem amX {l : List PV} {j : Nat} {K : PV → Prop} : wD .bool l j K = eK (kJ l j) K := by simp [wD, TI.agg]
@[simp] theorem aqu {l : List PV} {j : Nat} {K : PV → Prop} : wD .str l j K = eK (kJ l j) K := by simp [wD, TI.agg]
@[simp] theorem akL {e n b : Nat} {z : List PV} {l : List PV} {j : Nat} {K : PV → Prop} : wD (.slice e n b z) l j K = eK (kJ l j) K := by simp [wD, TI.agg]
@[simp] theorem aqv {e m n : Nat} {z : List PV} {l : List PV} {j : Nat} {K : PV → Prop} : wD (.arr e m n z) l j K = aH (j + z.length ≤ l.length) (K (.ag ((l.drop j).take z.length))) := by simp [wD, TI.agg, TI.size, TI.zero]
@[simp] theorem amY {l : List PV} {j : Nat} {K : PV → Prop} : wD .yB l j K = eK (kJ l j) K := by simp [wD, TI.agg]
@[simp] theorem aqw {l : List PV} {j : Nat} {K : PV → Prop} : wD .fnT l j K = eK (kJ l j) K := by simp [wD, TI.agg]
@[simp] theorem ahQ {fs : List (Nat × Nat × Bool)} {z : List PV} {l : List PV} {j : Nat} {K : PV → Prop} : wD (.struct fs z) l j K = aH (j + z.length ≤ l.length) (K (.ag ((l.drop j).take z.length))) := by simp [wD, TI.agg, TI.size, TI.zero]
def jV (E : Env) (t : TypeId) (rows : Rows) (p : PV) (K : PV → Prop) : Prop :=
 aH ((E.ty t).known = true) (match p with
 | .rd l => wD (E.ty t) l 0 K
 | .ptr id ver i j => bJ (rows id) ver fun r => CS r.els i fun el => wD (E.ty t) el j K
 | _ => False)
@[congr] theorem acN {E : Env} {t : TypeId} {rows : Rows} {p p' : PV} {K : PV → Prop} (h : p = p') : jV E t rows p K = jV E t rows p' K := by rw [h]
@[simp] theorem akM {E : Env} {t : TypeId} {rows : Rows} {l : List PV} {K : PV → Prop} : jV E t rows (.rd l) K = aH ((E.ty t).known = true) (wD (E.ty t) l 0 K) := rfl
@[simp] theorem ahR {E : Env} {t : TypeId} {rows : Rows} {id ver i j : Nat} {K : PV → Prop} : jV E t rows (.ptr id ver i j) K = aH ((E.ty t).known = true) (bJ (rows id) ver fun r => CS r.els i fun el => wD (E.ty t) el j K) := rfl
theorem HW {ti : TI} {l : List PV} {j : Nat} {K : PV → Prop} : aU (fun v => if ti.agg = true then j + ti.size ≤ l.length ∧ v = .ag ((l.drop j).take ti.size) else l[j]? = some v) K = wD ti l j K := by
 simp only [wD, eK]
 split
 ·rw [iN, i5]
 ·rfl
theorem r8 {E : Env} {t : TypeId} {rows : Rows} {p : PV} {K : PV → Prop} : aU (fun v => rG E t rows p v) K = jV E t rows p K := by
 simp only [rG, jV]
 rw [iN]
 congr 1
 cases p with
 | rd l => dsimp only; rw [← HW]; simp [go]
 | ptr id ver i j =>
  simp only [bJ, CS, ← HW]
  apply propext; simp only [aU]
  constructor
  ·rintro ⟨v, ⟨r, h1, h2, el, h3, h4⟩, h5⟩; exact ⟨r, h1, h2, el, h3, v, h4, h5⟩
  ·rintro ⟨r, h1, h2, el, h3, v, h4, h5⟩; exact ⟨v, ⟨r, h1, h2, el, h3, h4⟩, h5⟩
 | _ => simp [aU]
def i6 (ti : TI) (i : Nat) (x : PV) (K : PV → Prop) : Prop :=
 match ti with
 | .struct fs _ => eK (kJ fs i) fun p => match x with
  | .ag l => if p.2.2 = true then K (.ag ((l.drop p.1).take p.2.1)) else eK (kJ l p.1) K
  | _ => False
 | _ => False
@[congr] theorem abZ {t t' : TI} {i : Nat} {x x' : PV} {K : PV → Prop} (h : t = t') (h2 : x = x') : i6 t i x K = i6 t' i x' K := by rw [h, h2]
def EV (p : Nat × Nat × Bool) (l : List PV) (K : PV → Prop) : Prop := if p.2.2 = true then K (.ag ((l.drop p.1).take p.2.1)) else eK (kJ l p.1) K
@[simp] theorem akN {o n : Nat} {l : List PV} {K : PV → Prop} : EV (o, n, true) l K = go (K (.ag ((l.drop o).take n))) := by show _ = K _; simp [EV]
@[simp] theorem ahS {o n : Nat} {l : List PV} {K : PV → Prop} : EV (o, n, false) l K = eK (kJ l o) K := by simp [EV]
@[congr] theorem ahT {p p' : Nat × Nat × Bool} {l l' : List PV} {K : PV → Prop} (h : p = p') (h2 : l = l') : EV p l K = EV p' l' K := by rw [h, h2]
@[simp] theorem ahU {fs : List (Nat × Nat × Bool)} {z : List PV} {i : Nat} {l : List PV} {K : PV → Prop} : i6 (.struct fs z) i (.ag l) K = eK (kJ fs i) fun p => EV p l K := rfl
theorem wE {E : Env} {t : TypeId} {i : Nat} {x : PV} {K : PV → Prop} : aU (fun v => rV E t i x v) K = i6 (E.ty t) i x K := by
 simp only [rV, i6]
 cases E.ty t with
 | struct fs z =>
  simp only [eK]
  apply propext; simp only [aU]
  cases x with
  | ag l =>
   simp only
   constructor
   ·rintro ⟨v, ⟨o, n, b, h1, h2⟩, h3⟩
    refine ⟨_, h1, ?_⟩
    simp only
    split at h2
    ·rename_i hb; rw [if_pos hb, ← h2]; exact h3
    ·rename_i hb; rw [if_neg hb]; exact ⟨v, h2, h3⟩
   ·rintro ⟨⟨o, n, b⟩, h1, h2⟩
    simp only at h2
    split at h2
    ·rename_i hb; exact ⟨_, ⟨o, n, b, h1, by rw [if_pos hb]⟩, h2⟩
    ·rename_i hb; obtain ⟨v, h3, h4⟩ := h2; exact ⟨v, ⟨o, n, b, h1, by rw [if_neg hb]; exact h3⟩, h4⟩
  | _ => simp
 | _ => simp [aU]
def cY (ti : TI) (rows : Rows) (i : Nat) (x : PV) (K : PV → Prop) : Prop :=
 match ti with
 | .struct fs _ => eK (kJ fs i) fun p => match x with
  | .rd l => aH (p.1 ≤ l.length) (K (.rd (l.drop p.1)))
  | .ptr id ver a j => bJ (rows id) ver fun _ => K (.ptr id ver a (j + p.1))
  | _ => False
 | _ => False
@[congr] theorem PZ {t t' : TI} {rows : Rows} {i : Nat} {x x' : PV} {K : PV → Prop} (h : t = t') (h2 : x = x') : cY t rows i x K = cY t' rows i x' K := by rw [h, h2]
@[simp] theorem XX {fs : List (Nat × Nat × Bool)} {z : List PV} {rows : Rows} {i : Nat} {l : List PV} {K : PV → Prop} : cY (.struct fs z) rows i (.rd l) K = eK (kJ fs i) fun p => aH (p.1 ≤ l.length) (K (.rd (l.drop p.1))) := rfl
@[simp] theorem V2 {fs : List (Nat × Nat × Bool)} {z : List PV} {rows : Rows} {i id ver a j : Nat} {K : PV → Prop} : cY (.struct fs z) rows i (.ptr id ver a j) K = eK (kJ fs i) fun p => bJ (rows id) ver fun _ => K (.ptr id ver a (j + p.1)) := rfl
theorem oL {E : Env} {t : TypeId} {rows : Rows} {i : Nat} {x : PV} {K : PV → Prop} : aU (fun v => eG E t rows i x v) K = cY (E.ty t) rows i x K := by
 simp only [eG, cY]
 cases E.ty t with
 | struct fs z =>
  simp only [eK]
  apply propext; simp only [aU]
  cases x with
  | rd l =>
   simp only [aH]
   constructor
   ·rintro ⟨v, ⟨o, n, b, h1, h2, rfl⟩, h3⟩; exact ⟨_, h1, h2, h3⟩
   ·rintro ⟨⟨o, n, b⟩, h1, h2, h3⟩; exact ⟨_, ⟨o, n, b, h1, h2, rfl⟩, h3⟩
  | ptr id ver a j =>
   simp only [bJ]
   constructor
   ·rintro ⟨v, ⟨o, n, b, h1, ⟨r, h2, h3⟩, rfl⟩, h4⟩; exact ⟨_, h1, r, h2, h3, h4⟩
   ·rintro ⟨⟨o, n, b⟩, h1, r, h2, h3, h4⟩; exact ⟨_, ⟨o, n, b, h1, ⟨r, h2, h3⟩, rfl⟩, h4⟩
  | _ => simp
 | _ => simp [aU]
def bB (n : Nat) (l : List (List PV)) : Prop := ∀ e ∈ l, e.length = n
@[simp] theorem cZ {α : Type} {g : α → List PV} {n : Nat} {l : List α} : (Enc g n) → bB n (emap g l) = True := by
 intro h
 simp only [bB, emap, List.mem_map, eq_iff_iff, iff_true]
 rintro e ⟨x, _, rfl⟩
 exact h x
@[simp] theorem ahV {n : Nat} : bB n [] = True := by simp [bB]
@[simp] theorem afw {n : Nat} {e : List PV} {l : List (List PV)} : bB n (e :: l) = (e.length = n ∧ bB n l) := by simp [bB]
def bU (ti : TI) (rows : Rows) (x ix : PV) (K : PV → Prop) : Prop :=
 match ti, ix with
 | .slice _ n _ _, .int _ k => aH (0 ≤ k) (match x with
  | .sl l => aH (bB n l) (CS l k.toNat fun el => K (.rd el))
  | .iZ l => aH (bB n l) (CS l k.toNat fun el => K (.rd el))
  | .own id ver off len => bJ (rows id) ver fun r => aH (r.size = n ∧ k.toNat < len) (K (.ptr id ver (off + k.toNat) 0))
  | _ => False)
 | .arr _ m n _, .int _ k => aH (0 ≤ k ∧ k.toNat < m) (match x with
  | .rd l => aH (k.toNat * n ≤ l.length) (K (.rd (l.drop (k.toNat * n))))
  | .ptr id ver a j => bJ (rows id) ver fun _ => K (.ptr id ver a (j + k.toNat * n))
  | _ => False)
 | _, _ => False
@[congr] theorem P3 {t t' : TI} {rows : Rows} {x x' y y' : PV} {K : PV → Prop} (h : t = t') (h2 : x = x') (h3 : y = y') : bU t rows x y K = bU t' rows x' y' K := by rw [h, h2, h3]
section
variable {α : Type} [Inhabited α] {g : α → List PV} {l : List α} {e n b : Nat} {z : List PV} {rows : Rows} {kk : IntKind} {k : Int} {K : PV → Prop} {els : List (List PV)} {id ver off len : Nat}
@[simp] theorem V3 : bU (.slice e n b z) rows (aJ g l) (.int kk k) K = aH (0 ≤ k ∧ k.toNat < l.length) (aH (bB n (emap g l)) (K (.rd (g (nth l k.toNat))))) := by
 simp only [bU, aJ, HV, aH, and_assoc]
 apply propext
 constructor
 ·rintro ⟨h1, h2, h3, h4⟩; exact ⟨h1, h3, h2, h4⟩
 ·rintro ⟨h1, h2, h3, h4⟩; exact ⟨h1, h3, h2, h4⟩
@[simp] theorem XY : bU (.slice e n b z) rows (.sl els) (.int kk k) K = aH (0 ≤ k) (aH (bB n els) (CS els k.toNat fun el => K (.rd el))) := rfl
@[simp] theorem V4 : bU (.slice e n b z) rows (.iZ els) (.int kk k) K = aH (0 ≤ k) (aH (bB n els) (CS els k.toNat fun el => K (.rd el))) := rfl
@[simp] theorem V5 {m : Nat} {l : List PV} : bU (.arr e m n z) rows (.rd l) (.int kk k) K = aH (0 ≤ k ∧ k.toNat < m) (aH (k.toNat * n ≤ l.length) (K (.rd (l.drop (k.toNat * n))))) := rfl
@[simp] theorem TL {m a j : Nat} : bU (.arr e m n z) rows (.ptr id ver a j) (.int kk k) K = aH (0 ≤ k ∧ k.toNat < m) (bJ (rows id) ver fun _ => K (.ptr id ver a (j + k.toNat * n))) := rfl
@[simp] theorem V6 : bU (.slice e n b z) rows (.own id ver off len) (.int kk k) K = aH (0 ≤ k) (bJ (rows id) ver fun r => aH (r.size = n ∧ k.toNat < len) (K (.ptr id ver (off + k.toNat) 0))) := rfl
end
theorem oM {E : Env} {t : TypeId} {rows : Rows} {x ix : PV} {K : PV → Prop} : aU (fun v => eH E t rows x ix v) K = bU (E.ty t) rows x ix K := by
 simp only [eH, bU]
 cases E.ty t with
 | slice e n b z =>
  cases ix with
  | int kk k =>
   simp only
   rw [iN]
   congr 1
   cases x with
   | sl l =>
    simp only [aH, CS, bB]
    apply propext; simp only [aU]
    constructor
    ·rintro ⟨v, ⟨el, h1, h2, rfl⟩, h4⟩; exact ⟨h2, el, h1, h4⟩
    ·rintro ⟨h2, el, h1, h4⟩; exact ⟨_, ⟨el, h1, h2, rfl⟩, h4⟩
   | iZ l =>
    simp only [aH, CS, bB]
    apply propext; simp only [aU]
    constructor
    ·rintro ⟨v, ⟨el, h1, h2, rfl⟩, h4⟩; exact ⟨h2, el, h1, h4⟩
    ·rintro ⟨h2, el, h1, h4⟩; exact ⟨_, ⟨el, h1, h2, rfl⟩, h4⟩
   | own id ver off len =>
    simp only [aH, bJ]
    apply propext; simp only [aU]
    constructor
    ·rintro ⟨v, ⟨r, h1, h2, h3, h4, rfl⟩, h5⟩; exact ⟨r, h1, h2, ⟨h3, h4⟩, h5⟩
    ·rintro ⟨r, h1, h2, ⟨h3, h4⟩, h5⟩; exact ⟨_, ⟨r, h1, h2, h3, h4, rfl⟩, h5⟩
   | _ => simp [aU]
  | _ => simp [aU]
 | arr e m n z =>
  cases ix with
  | int kk k =>
   simp only
   rw [iN]
   congr 1
   cases x with
   | rd l =>
    simp only
    rw [iN, i5]
   | ptr id ver a j =>
    simp only [bJ]
    apply propext; simp only [aU]
    constructor
    ·rintro ⟨v, ⟨⟨r, h1, h2⟩, rfl⟩, h3⟩; exact ⟨r, h1, h2, h3⟩
    ·rintro ⟨r, h1, h2, h3⟩; exact ⟨_, ⟨⟨r, h1, h2⟩, rfl⟩, h3⟩
   | _ => simp [aU]
  | _ => simp [aU]
 | _ => simp [aU]
def wF (d : Nat) (o : Option PV) (K : Nat → Prop) : Prop :=
 match o with
 | none => K d
 | some (.int _ k) => aH (0 ≤ k) (K k.toNat)
 | some _ => False
@[congr] theorem akO {d d' : Nat} {o o' : Option PV} {K : Nat → Prop} (h : d = d') (h2 : o = o') : wF d o K = wF d' o' K := by rw [h, h2]
@[simp] theorem amZ {d : Nat} {K : Nat → Prop} : wF d none K = go (K d) := rfl
@[simp] theorem am0 {d : Nat} {kk : IntKind} {k : Int} {K : Nat → Prop} : wF d (some (.int kk k)) K = aH (0 ≤ k) (K k.toNat) := rfl
theorem MV {d : Nat} {o : Option PV} {K : Nat → Prop} : wF d o K ↔ ∃ n, sW d o n ∧ K n := by
 cases o with
 | none => simp [wF, sW]
 | some p =>
  cases p with
  | int kk k =>
   simp only [wF, sW, aH]
   constructor
   ·rintro ⟨h1, h2⟩; exact ⟨_, ⟨h1, rfl⟩, h2⟩
   ·rintro ⟨n, ⟨h1, rfl⟩, h2⟩; exact ⟨h1, h2⟩
  | _ => simp [wF, sW]
def TM {α : Type} (mk mkx : List α → PV) (n : Nat) (l : List α) (ok : Prop) (lo hi mx : Option PV) (K : PV → Prop) : Prop :=
 wF 0 lo fun a => wF l.length hi fun b => aH (a ≤ b ∧ b ≤ l.length) (aH ok (match mx with
  | none => K (mk ((l.take b).drop a))
  | some m => wF 0 (some m) fun c => aH (b = c ∧ hi.isSome = true) (K (mkx ((l.take b).drop a)))))
def eQ (ti : TI) (rows : Rows) (x : PV) (lo hi mx : Option PV) (K : PV → Prop) : Prop :=
 match ti with
 | .slice _ n _ _ =>
  match x with
  | .nil => wF 0 lo fun a => wF 0 hi fun b => aH (a = 0 ∧ b = 0 ∧ mx.isNone = true) (K .nil)
  | .sl l => TM .sl .iZ n l (bB n l) lo hi mx K
  | .iZ l => TM .sl .iZ n l (bB n l) lo hi mx K
  | .own id ver off len => bJ (rows id) ver fun r => aH (r.size = n) (wF 0 lo fun a => wF len hi fun b => aH (a ≤ b ∧ b ≤ len ∧ mx.isNone = true) (K (.own id ver (off + a) (b - a))))
  | _ => False
 | _ => False
@[congr] theorem ab0 {t t' : TI} {rows : Rows} {x x' : PV} {lo LA hi kY mx mx' : Option PV} {K : PV → Prop} (h : t = t') (h2 : x = x') (h3 : lo = LA) (h4 : hi = kY) (h5 : mx = mx') : eQ t rows x lo hi mx K = eQ t' rows x' LA kY mx' K := by rw [h, h2, h3, h4, h5]
section
variable {α : Type} {g : α → List PV} {l : List α} {e n b : Nat} {z : List PV} {rows : Rows} {lo hi mx : Option PV} {K : PV → Prop} {els : List (List PV)} {id ver off len : Nat}
theorem HX {a b : Nat} : ((emap g l).take b).drop a = emap g ((l.take b).drop a) := by simp [emap]
@[simp] theorem afx : eQ (.slice e n b z) rows (aJ g l) lo hi none K = wF 0 lo fun a => wF l.length hi fun b => aH (a ≤ b ∧ b ≤ l.length) (aH (bB n (emap g l)) (K (aJ g ((l.take b).drop a)))) := by
 simp only [eQ, aJ, TM, HX]
 simp [emap]
theorem EW {m : PV} : eQ (.slice e n b z) rows (aJ g l) lo hi (some m) K = wF 0 lo fun a => wF l.length hi fun b => aH (a ≤ b ∧ b ≤ l.length) (aH (bB n (emap g l)) (wF 0 (some m) fun c => aH (b = c ∧ hi.isSome = true) (K (.iZ (emap g ((l.take b).drop a)))))) := by
 simp only [eQ, aJ, TM, HX]
 simp [emap]
@[simp] theorem afy : eQ (.slice e n b z) rows .nil lo hi mx K = wF 0 lo fun a => wF 0 hi fun b => aH (a = 0 ∧ b = 0 ∧ mx.isNone = true) (K .nil) := rfl
@[simp] theorem afz : eQ (.slice e n b z) rows (.own id ver off len) lo hi mx K = bJ (rows id) ver fun r => aH (r.size = n) (wF 0 lo fun a => wF len hi fun b => aH (a ≤ b ∧ b ≤ len ∧ mx.isNone = true) (K (.own id ver (off + a) (b - a)))) := rfl
end
theorem P4 {l : List (List PV)} {n : Nat} {lo hi mx : Option PV} {K : PV → Prop} : (∃ v, (∃ a b, sW 0 lo a ∧ sW l.length hi b ∧ a ≤ b ∧ b ≤ l.length ∧ (∀ e ∈ l, e.length = n) ∧ LH l a b hi mx v) ∧ K v) ↔ TM .sl .iZ n l (bB n l) lo hi mx K := by
 simp only [TM, MV, aH, bB, LH]
 constructor
 ·rintro ⟨v, ⟨a, b, h1, h2, h3, h4, h5, h6⟩, h7⟩
  refine ⟨a, h1, b, h2, ⟨h3, h4⟩, h5, ?_⟩
  cases mx with
  | none => simp only at h6 ⊢; rw [← h6]; exact h7
  | some m => obtain ⟨c, q1, q2, q3, rfl⟩ := h6; exact ⟨c, q1, ⟨q2, q3⟩, h7⟩
 ·rintro ⟨a, h1, b, h2, ⟨h3, h4⟩, h5, h6⟩
  cases mx with
  | none => exact ⟨_, ⟨a, b, h1, h2, h3, h4, h5, rfl⟩, h6⟩
  | some m => obtain ⟨c, q1, ⟨q2, q3⟩, h7⟩ := h6; exact ⟨_, ⟨a, b, h1, h2, h3, h4, h5, c, q1, q2, q3, rfl⟩, h7⟩
theorem wG {E : Env} {t : TypeId} {rows : Rows} {x : PV} {lo hi mx : Option PV} {K : PV → Prop} : aU (fun v => mM E t rows x lo hi mx v) K = eQ (E.ty t) rows x lo hi mx K := by
 simp only [mM, eQ]
 cases E.ty t with
 | slice e n b z =>
  cases x with
  | sl l => exact propext P4
  | iZ l => exact propext P4
  | nil =>
   simp only [MV, aH]
   apply propext; simp only [aU]
   constructor
   ·rintro ⟨v, ⟨a, b, h1, h2, h3, h4, h5, rfl⟩, h6⟩; exact ⟨a, h1, b, h2, ⟨h3, h4, h5⟩, h6⟩
   ·rintro ⟨a, h1, b, h2, ⟨h3, h4, h5⟩, h6⟩; exact ⟨_, ⟨a, b, h1, h2, h3, h4, h5, rfl⟩, h6⟩
  | own id ver off len =>
   simp only [MV, aH, bJ]
   apply propext; simp only [aU]
   constructor
   ·rintro ⟨v, ⟨r, q1, q2, q3, a, b, h1, h2, h3, h4, h5, rfl⟩, h6⟩; exact ⟨r, q1, q2, q3, a, h1, b, h2, ⟨h3, h4, h5⟩, h6⟩
   ·rintro ⟨r, q1, q2, q3, a, h1, b, h2, ⟨h3, h4, h5⟩, h6⟩; exact ⟨_, ⟨r, q1, q2, q3, a, b, h1, h2, h3, h4, h5, rfl⟩, h6⟩
  | _ => simp [aU]
 | _ => simp [aU]
def rP (rows : Rows) (x : PV) (K : PV → Prop) : Prop :=
 match x with
 | .rd l => K (.rd l)
 | .ptr id ver i j => bJ (rows id) ver fun _ => K (.ptr id ver i j)
 | _ => False
@[congr] theorem afA {rows : Rows} {x x' : PV} {K : PV → Prop} (h : x = x') : rP rows x K = rP rows x' K := by rw [h]
@[simp] theorem am1 {rows : Rows} {l : List PV} {K : PV → Prop} : rP rows (.rd l) K = go (K (.rd l)) := rfl
@[simp] theorem akP {rows : Rows} {id ver i j : Nat} {K : PV → Prop} : rP rows (.ptr id ver i j) K = bJ (rows id) ver fun _ => K (.ptr id ver i j) := rfl
theorem CT {rows : Rows} {x : PV} {K : PV → Prop} : aU (fun v => BF rows x v) K = rP rows x K := by
 simp only [BF, rP]
 cases x with
 | rd l => dsimp only; rw [i5]
 | ptr id ver i j =>
  simp only [bJ]
  apply propext; simp only [aU]
  constructor
  ·rintro ⟨v, ⟨⟨r, h1, h2⟩, rfl⟩, h3⟩; exact ⟨r, h1, h2, h3⟩
  ·rintro ⟨r, h1, h2, h3⟩; exact ⟨_, ⟨⟨r, h1, h2⟩, rfl⟩, h3⟩
 | _ => simp [aU]
def kM (ti : TI) (rows : Rows) (x : PV) (K : PV → Prop) : Prop :=
 match ti with
 | .slice _ _ _ _ => match x with
  | .nil => K (.int .i64 0)
  | .sl l => K (.int .i64 l.length)
  | .iZ l => K (.int .i64 l.length)
  | .own id ver _ len => bJ (rows id) ver fun _ => K (.int .i64 len)
  | _ => False
 | _ => False
@[congr] theorem afB {t t' : TI} {rows : Rows} {x x' : PV} {K : PV → Prop} (h : t = t') (h2 : x = x') : kM t rows x K = kM t' rows x' K := by rw [h, h2]
section
variable {α : Type} {g : α → List PV} {l : List α} {e n b : Nat} {z : List PV} {rows : Rows} {K : PV → Prop} {els : List (List PV)} {id ver off len : Nat}
@[simp] theorem akQ : kM (.slice e n b z) rows (aJ g l) K = go (K (.int .i64 l.length)) := by show _ = K _; simp [kM, aJ, emap]
@[simp] theorem akR : kM (.slice e n b z) rows .nil K = go (K (.int .i64 0)) := rfl
@[simp] theorem am2 : kM (.slice e n b z) rows (.sl els) K = go (K (.int .i64 els.length)) := rfl
@[simp] theorem akS : kM (.slice e n b z) rows (.iZ els) K = go (K (.int .i64 els.length)) := rfl
@[simp] theorem akT : kM (.slice e n b z) rows (.own id ver off len) K = bJ (rows id) ver fun _ => K (.int .i64 len) := rfl
end
theorem CU {ti : TI} {rows : Rows} {x : PV} {K : PV → Prop} : aU (fun v => vP ti rows x v) K = kM ti rows x K := by
 simp only [vP, kM]
 cases ti with
 | slice e n b z =>
  apply propext; simp only [aU, SL]
  cases x with
  | own id ver off len =>
   simp only [bJ]
   constructor
   ·rintro ⟨v, ⟨n, ⟨⟨r, h1, h2⟩, rfl⟩, rfl⟩, h4⟩; exact ⟨r, h1, h2, h4⟩
   ·rintro ⟨r, h1, h2, h4⟩; exact ⟨_, ⟨_, ⟨⟨r, h1, h2⟩, rfl⟩, rfl⟩, h4⟩
  | _ => simp
 | _ => simp [aU]
def gN (els : List (List PV)) (i j : Nat) (l : List PV) : List (List PV) := els.set i (((els[i]?).getD []).take j ++ l ++ ((els[i]?).getD []).drop (j + l.length))
def rQ (els : List (List PV)) (i n : Nat) : Prop := ∃ el, els[i]? = some el ∧ n ≤ el.length
def fW (rows : Rows) (l : List PV) : Prop := ∀ q ∈ l, gW rows q
@[simp] theorem ahW {rows : Rows} : fW rows [] = True := by simp [fW]
@[simp] theorem afC {rows : Rows} {p : PV} {l : List PV} : fW rows (p :: l) = (gW rows p ∧ fW rows l) := by simp [fW]
@[simp] theorem ahX {α : Type} [Inhabited α] {g : α → List PV} {l : List α} {i n : Nat} : rQ (emap g l) i n = (i < l.length ∧ n ≤ (g (nth l i)).length) := by
 exact HV (g := g) (l := l) (i := i) (K := fun el => n ≤ el.length)
def i7 (E : Env) (t : TypeId) (rows : Rows) (p x : PV) (K : Nat → Row → Prop) : Prop :=
 aH ((E.ty t).known = true) (match p with
 | .ptr id ver i j => bJ (rows id) ver fun r => eK (bO x) fun l => aH (rQ r.els i (j + l.length) ∧ fW rows l ∧ l.length = (E.ty t).size) (K id ⟨ver, r.e, r.size, gN r.els i j l⟩)
 | _ => False)
@[congr] theorem ab3 {E : Env} {t : TypeId} {rows : Rows} {p p' x x' : PV} {K : Nat → Row → Prop} (h1 : p = p') (h2 : x = x') : i7 E t rows p x K = i7 E t rows p' x' K := by rw [h1, h2]
@[simp] theorem afD {E : Env} {t : TypeId} {rows : Rows} {id ver i j : Nat} {x : PV} {K : Nat → Row → Prop} : i7 E t rows (.ptr id ver i j) x K = aH ((E.ty t).known = true) (bJ (rows id) ver fun r => eK (bO x) fun l => aH (rQ r.els i (j + l.length) ∧ fW rows l ∧ l.length = (E.ty t).size) (K id ⟨ver, r.e, r.size, gN r.els i j l⟩)) := rfl
theorem CV {E : Env} {t : TypeId} {rows : Rows} {p x : PV} {K : Nat → Row → Prop} : (∃ id r, pB E t rows p x .undef (some (id, r)) ∧ K id r) = i7 E t rows p x K := by
 simp only [pB, i7, aH, bJ, eK, rQ, fW]
 apply propext
 constructor
 ·rintro ⟨id, r, ⟨h1, _, h2⟩, h3⟩
  refine ⟨h1, ?_⟩
  split at h2
  ·obtain ⟨r0, q1, q2, el, q3, l, q4, q5, q6, q7, q8⟩ := h2
   simp only [Option.some.injEq, Prod.mk.injEq] at q8
   obtain ⟨rfl, rfl⟩ := q8
   refine ⟨r0, q1, q2, l, q4, ⟨⟨el, q3, q7⟩, q5, q6⟩, ?_⟩
   simp only [gN, q3, Option.getD_some]
   rw [q2] at h3
   exact h3
  ·exact h2.elim
 ·rintro ⟨h1, h2⟩
  split at h2
  ·obtain ⟨r0, q1, q2, l, q4, ⟨⟨el, q3, q7⟩, q5, q6⟩, h3⟩ := h2
   simp only [gN, q3, Option.getD_some] at h3
   refine ⟨_, _, ⟨h1, trivial, r0, q1, q2, el, q3, l, q4, q5, q6, q7, rfl⟩, ?_⟩
   rw [← q2] at h3
   exact h3
  ·exact h2.elim
def jL (rows : Rows) (y : PV) (K : List (List PV) → Prop) : Prop :=
 match y with
 | .nil => K []
 | .sl k => K k
 | .iZ k => K k
 | .own id ver off len => bJ (rows id) ver fun r => K ((r.els.drop off).take len)
 | _ => False
@[congr] theorem afE {rows : Rows} {y y' : PV} {K : List (List PV) → Prop} (h : y = y') : jL rows y K = jL rows y' K := by rw [h]
@[simp] theorem akU {rows : Rows} {K : List (List PV) → Prop} : jL rows .nil K = go (K []) := rfl
@[simp] theorem am3 {rows : Rows} {l : List (List PV)} {K : List (List PV) → Prop} : jL rows (.sl l) K = go (K l) := rfl
@[simp] theorem akV {α : Type} {g : α → List PV} {rows : Rows} {l : List α} {K : List (List PV) → Prop} : jL rows (aJ g l) K = go (K (emap g l)) := rfl
@[simp] theorem akW {rows : Rows} {l : List (List PV)} {K : List (List PV) → Prop} : jL rows (.iZ l) K = go (K l) := rfl
@[simp] theorem akX {rows : Rows} {id ver off len : Nat} {K : List (List PV) → Prop} : jL rows (.own id ver off len) K = bJ (rows id) ver fun r => K ((r.els.drop off).take len) := rfl
theorem P5 {rows : Rows} {y : PV} {K : List (List PV) → Prop} : (∃ l, s5 rows y l ∧ K l) = jL rows y K := by
 simp only [s5, jL]
 apply propext
 cases y with
 | own id ver off len =>
  simp only [bJ]
  constructor
  ·rintro ⟨l, ⟨r, h1, h2, rfl⟩, h3⟩; exact ⟨r, h1, h2, h3⟩
  ·rintro ⟨r, h1, h2, h3⟩; exact ⟨_, ⟨r, h1, h2, rfl⟩, h3⟩
 | _ => simp
def pI (t : TI) (rows : Rows) (x y : PV) (clk d : Nat) (K : PV → Rows → Nat → Prop) : Prop :=
 match t with
 | .slice e n b _ => jL rows y fun l => aH (bB n l) (match x with
  | .nil => aH (l.length ≤ room ∧ l.length * b ≤ room) (K (.own d clk 0 l.length) (dE rows d (some ⟨clk, e, n, l⟩)) (clk + 1))
  | .own id ver off len => bJ (rows id) ver fun r => aH (off = 0 ∧ len = r.els.length ∧ r.e = e ∧ r.size = n) (aH (len + l.length ≤ room ∧ (len + l.length) * b ≤ room) (K (.own id clk 0 (len + l.length)) (dE rows id (some ⟨clk, e, n, r.els ++ l⟩)) (clk + 1)))
  | .iZ l0 => aH (bB n l0 ∧ ∀ e ∈ l, ∀ p ∈ e, bY p = true) (aH (l0.length + l.length ≤ room ∧ (l0.length + l.length) * b ≤ room) (K (.sl (l0 ++ l)) rows clk))
  | _ => False)
 | _ => False
@[congr] theorem afF {t t' : TI} {rows : Rows} {x x' y y' : PV} {clk d : Nat} {K : PV → Rows → Nat → Prop} (h1 : t = t') (h3 : x = x') (h4 : y = y') :
  pI t rows x y clk d K = pI t' rows x' y' clk d K := by rw [h1, h3, h4]
section
variable {e n b clk d id ver off len : Nat} {z : List PV} {rows : Rows} {y : PV} {K : PV → Rows → Nat → Prop} {l0 : List (List PV)}
@[simp] theorem akY : pI (.slice e n b z) rows .nil y clk d K = jL rows y fun l => aH (bB n l) (aH (l.length ≤ room ∧ l.length * b ≤ room) (K (.own d clk 0 l.length) (dE rows d (some ⟨clk, e, n, l⟩)) (clk + 1))) := rfl
@[simp] theorem akZ : pI (.slice e n b z) rows (.own id ver off len) y clk d K = jL rows y fun l => aH (bB n l) (bJ (rows id) ver fun r => aH (off = 0 ∧ len = r.els.length ∧ r.e = e ∧ r.size = n) (aH (len + l.length ≤ room ∧ (len + l.length) * b ≤ room) (K (.own id clk 0 (len + l.length)) (dE rows id (some ⟨clk, e, n, r.els ++ l⟩)) (clk + 1)))) := rfl
@[simp] theorem ak0 : pI (.slice e n b z) rows (.iZ l0) y clk d K = jL rows y fun l => aH (bB n l) (aH (bB n l0 ∧ ∀ e ∈ l, ∀ p ∈ e, bY p = true) (aH (l0.length + l.length ≤ room ∧ (l0.length + l.length) * b ≤ room) (K (.sl (l0 ++ l)) rows clk))) := rfl
end
theorem acO {t : TI} {rows : Rows} {x y : PV} {clk d : Nat} {K : PV → Rows → Nat → Prop} : TD t rows x y clk d K = pI t rows x y clk d K := by
 unfold TD pI
 cases t with
 | slice e n b z =>
  dsimp only
  rw [← P5]
  congr 1; funext l; congr 1
  simp only [aH, bB]
  congr 1
  cases x with
  | own id ver off len => simp only [bJ, and_assoc]
  | iZ l0 => simp only [bB, and_assoc]
  | _ => rfl
 | _ => rfl
def fzR (o : Option Row) (ver off len : Nat) : PV :=
 match o with
 | some r => if r.ver = ver then .sl ((r.els.drop off).take len) else .undef
 | none => .undef
@[simp] theorem asC {rows : Rows} {id ver off len : Nat} : fz rows (.own id ver off len) = fzR (rows id) ver off len := rfl
@[simp] theorem am4 {α : Type} {g : α → List PV} {l : List α} {ver e n off len : Nat} : fzR (some ⟨ver, e, n, emap g l⟩) ver off len = aJ g ((l.drop off).take len) := by simp [fzR, aJ, emap]
@[simp] theorem asD {rows : Rows} : fz rows .nil = .sl [] := rfl
@[simp] theorem asE {rows : Rows} {l : List (List PV)} : fz rows (.iZ l) = .sl l := rfl
@[simp] theorem avD {rows : Rows} {l : List (List PV)} : fz rows (.sl l) = .sl l := rfl
@[simp] theorem asF {α : Type} {g : α → List PV} {rows : Rows} {l : List α} : fz rows (aJ g l) = aJ g l := rfl
@[simp] theorem asG {rows : Rows} {k : IntKind} {n : Int} : fz rows (.int k n) = .int k n := rfl
@[simp] theorem aqx {rows : Rows} {b : Bool} : fz rows (.bool b) = .bool b := rfl
@[simp] theorem avE {rows : Rows} {f : FuncId} {l : List PV} : fz rows (.fn f l) = .fn f l := rfl
@[simp] theorem asH {rows : Rows} {id ver off len : Nat} : pz rows (.own id ver off len) = fzR (rows id) ver off len := rfl
@[simp] theorem asI {rows : Rows} : pz rows .nil = .sl [] := rfl
@[simp] theorem asJ {rows : Rows} {l : List (List PV)} : pz rows (.iZ l) = .sl l := rfl
@[simp] theorem avF {rows : Rows} {l : List (List PV)} : pz rows (.sl l) = .sl l := rfl
@[simp] theorem asK {α : Type} {g : α → List PV} {rows : Rows} {l : List α} : pz rows (aJ g l) = aJ g l := rfl
@[simp] theorem asL {rows : Rows} {k : IntKind} {n : Int} : pz rows (.int k n) = .int k n := rfl
@[simp] theorem aqy {rows : Rows} {b : Bool} : pz rows (.bool b) = .bool b := rfl
@[simp] theorem avG {rows : Rows} {f : FuncId} {l : List PV} : pz rows (.fn f l) = .fn f l := rfl
@[simp] theorem avH {rows : Rows} {l : List PV} : pz rows (.ag l) = .ag (l.map (fz rows)) := rfl
@[simp] theorem am5 {α : Type} {g : α → List PV} {l : List α} : eY (aJ g l) = true := rfl
@[simp] theorem ak2 {α : Type} {g : α → List PV} {l : List α} : bY (aJ g l) = true := rfl
@[simp] theorem aqz {α : Type} {g : α → List PV} {l : List α} : aZ (aJ g l) = [] := rfl
@[simp] theorem am6 {α : Type} {g : α → List PV} {l : List α} : dA (aJ g l) = [] := rfl
@[simp] theorem aqA {l : List (List PV)} : dA (.sl l) = [] := rfl
@[simp] theorem am7 {l : List (List PV)} : dA (.iZ l) = [] := rfl
@[simp] theorem am8 {k : IntKind} {n : Int} : dA (.int k n) = [] := rfl
@[simp] theorem ak3 {b : Bool} : dA (.bool b) = [] := rfl
@[simp] theorem aqB {f : FuncId} {l : List PV} : dA (.fn f l) = [] := rfl
@[simp] theorem am9 : dA .nil = [] := rfl
@[simp] theorem ana {id ver off len : Nat} : dA (.own id ver off len) = [id] := rfl
@[simp] theorem aqC {l : List PV} : dA (.ag l) = l.flatMap aZ := rfl
@[simp] theorem anb {α : Type} {g : α → List PV} {rows : Rows} {l : List α} : gW rows (aJ g l) = True := rfl
@[simp] theorem ahY {α : Type} {g : α → List PV} {l : List α} : bO (aJ g l) = some [aJ g l] := rfl
@[simp] theorem ahZ {α : Type} {g : α → List PV} {l : List α} : dZ (aJ g l) = some [aJ g l] := rfl
def cQ (o : Option Row) : Prop := ∀ r, o = some r → ∀ e ∈ r.els, ∀ p ∈ e, bY p = true
@[simp] theorem acP {rows : Rows} : dM rows [] = True := by simp [dM]
@[simp] theorem ab4 {rows : Rows} {id : Nat} {ids : List Nat} : dM rows (id :: ids) = (cQ (rows id) ∧ dM rows ids) := by simp [dM, cQ]
@[simp] theorem acQ : cQ none = True := by simp [cQ]
@[simp] theorem cM {α : Type} {g : α → List PV} {l : List α} {ver e n : Nat} (h : amU g) : cQ (some ⟨ver, e, n, emap g l⟩) = True := by
 simp only [cQ, emap, Option.some.injEq, eq_iff_iff, iff_true]
 rintro r rfl e he p hp
 simp at he
 obtain ⟨x, _, rfl⟩ := he
 exact List.all_eq_true.1 (h x) p hp
@[simp] theorem aqD {rows : Rows} : CL rows [] = rows := by funext j; simp [CL]
@[simp] theorem asM {rows : Rows} {ids : List Nat} {j : Nat} : CL rows ids j = if j ∈ ids then none else rows j := rfl
def lC (fs : List (Nat × Nat × Bool)) : List (Nat × PV) → List PV → (List PV → Prop) → Prop
 | [], z, K => K z
 | (i, p) :: ps, z, K => eK (kJ fs i) fun q => eK (dZ p) fun l => aH (l.length = q.2.1 ∧ q.1 + q.2.1 ≤ z.length) (lC fs ps (z.take q.1 ++ l ++ z.drop (q.1 + q.2.1)) K)
@[congr] theorem afG {fs : List (Nat × Nat × Bool)} {ps P6 : List (Nat × PV)} {z z' : List PV} {K : List PV → Prop} (h : ps = P6) (h2 : z = z') : lC fs ps z K = lC fs P6 z' K := by rw [h, h2]
@[simp] theorem ak4 {fs : List (Nat × Nat × Bool)} {z : List PV} {K : List PV → Prop} : lC fs [] z K = go (K z) := rfl
@[simp] theorem ah0 {fs : List (Nat × Nat × Bool)} {i : Nat} {p : PV} {ps : List (Nat × PV)} {z : List PV} {K : List PV → Prop} : lC fs ((i, p) :: ps) z K = eK (kJ fs i) fun q => eK (dZ p) fun l => aH (l.length = q.2.1 ∧ q.1 + q.2.1 ≤ z.length) (lC fs ps (z.take q.1 ++ l ++ z.drop (q.1 + q.2.1)) K) := rfl
theorem y6 {fs : List (Nat × Nat × Bool)} : ∀ {ps : List (Nat × PV)} {z : List PV} {K : List PV → Prop}, (∃ l, rH fs ps z = some l ∧ K l) ↔ lC fs ps z K
 | [], z, K => by simp [rH, lC]
 | (i, p) :: ps, z, K => by
  simp only [rH, lC, eK, aH, kJ]
  cases h1 : fs[i]? with
  | none => simp
  | some q =>
   obtain ⟨o, n, b⟩ := q
   cases h2 : dZ p with
   | none => simp
   | some l =>
    simp only [Option.some.injEq, exists_eq_left']
    rw [← y6]
    split
    ·rename_i h; simp [h]
    ·rename_i h; simp [h]
def j5 (ti : TI) (ps : List (Nat × PV)) (K : PV → Prop) : Prop :=
 match ti with
 | .struct fs z => lC fs ps z fun l => K (.ag l)
 | .arr _ k n z => lC (LJ k n) ps z fun l => K (.ag l)
 | _ => False
@[congr] theorem ab5 {t t' : TI} {ps P6 : List (Nat × PV)} {K : PV → Prop} (h : t = t') (h2 : ps = P6) : j5 t ps K = j5 t' P6 K := by rw [h, h2]
@[simp] theorem XZ {fs : List (Nat × Nat × Bool)} {z : List PV} {ps : List (Nat × PV)} {K : PV → Prop} : j5 (.struct fs z) ps K = lC fs ps z fun l => K (.ag l) := rfl
@[simp] theorem afH {e k n : Nat} {z : List PV} {ps : List (Nat × PV)} {K : PV → Prop} : j5 (.arr e k n z) ps K = lC (LJ k n) ps z fun l => K (.ag l) := rfl
@[simp] theorem ak5 {k n i : Nat} : kJ (LJ k n) i = if i < k then some (i * n, n, false) else none := by
 unfold kJ LJ
 rw [List.getElem?_map]
 split
 ·rename_i h; rw [List.getElem?_range h]; rfl
 ·rename_i h; rw [List.getElem?_eq_none (by simpa using h)]; rfl
theorem wH {ti : TI} {ps : List (Nat × PV)} {K : PV → Prop} : aU (fun v => o7 ti ps v) K = j5 ti ps K := by
 simp only [o7, j5]
 cases ti with
 | struct fs z =>
  apply propext; simp only [aU]
  rw [← y6]
  constructor
  ·rintro ⟨v, ⟨l, h1, rfl⟩, h2⟩; exact ⟨l, h1, h2⟩
  ·rintro ⟨l, h1, h2⟩; exact ⟨_, ⟨l, h1, rfl⟩, h2⟩
 | arr e k n z =>
  apply propext; simp only [aU]
  rw [← y6]
  constructor
  ·rintro ⟨v, ⟨l, h1, rfl⟩, h2⟩; exact ⟨l, h1, h2⟩
  ·rintro ⟨l, h1, h2⟩; exact ⟨_, ⟨l, h1, rfl⟩, h2⟩
 | _ => simp [aU]
def iG (n : Nat) : Nat → List (Nat × PV) → (List (List PV) → Prop) → Prop
 | _, [], K => K []
 | k, (i, p) :: ps, K => eK (bO p) fun l => aH (i = k ∧ l.length = n) (iG n (k + 1) ps fun els => K (l :: els))
@[congr] theorem acR {n k : Nat} {ps P6 : List (Nat × PV)} {K : List (List PV) → Prop} (h : ps = P6) : iG n k ps K = iG n k P6 K := by rw [h]
@[simp] theorem ah1 {n k : Nat} {K : List (List PV) → Prop} : iG n k [] K = go (K []) := rfl
@[simp] theorem afI {n k i : Nat} {p : PV} {ps : List (Nat × PV)} {K : List (List PV) → Prop} : iG n k ((i, p) :: ps) K = eK (bO p) fun l => aH (i = k ∧ l.length = n) (iG n (k + 1) ps fun els => K (l :: els)) := rfl
theorem u3 {n : Nat} : ∀ {ps : List (Nat × PV)} {k : Nat} {K : List (List PV) → Prop}, (∃ l, fU n k ps = some l ∧ K l) ↔ iG n k ps K
 | [], k, K => by simp [fU, iG]
 | (i, p) :: ps, k, K => by
  simp only [fU, iG, eK, aH]
  cases h2 : bO p with
  | none => simp
  | some l =>
   simp only [Option.some.injEq, exists_eq_left']
   rw [← u3]
   by_cases h : i = k ∧ l.length = n
   ·rw [if_pos h]
    constructor
    ·rintro ⟨e, h1, h3⟩
     obtain ⟨e', h4, rfl⟩ := Option.map_eq_some_iff.1 h1
     exact ⟨h, e', h4, h3⟩
    ·rintro ⟨_, e', h4, h3⟩
     exact ⟨_, by rw [h4]; rfl, h3⟩
   ·rw [if_neg h]; simp [h]
def y7 (rows : Rows) (els : List (List PV)) : Prop := (∀ e ∈ els, ∀ p ∈ e, bY (fz rows p) = true ∧ gW rows p) ∧ (∀ e ∈ els, ∀ p ∈ e, aZ p = [])
@[simp] theorem ak6 {rows : Rows} : y7 rows [] = True := by simp [y7]
@[simp] theorem ah2 {rows : Rows} {e : List PV} {els : List (List PV)} : y7 rows (e :: els) = ((∀ p ∈ e, bY (fz rows p) = true ∧ gW rows p ∧ aZ p = []) ∧ y7 rows els) := by
 simp only [y7, List.mem_cons, forall_eq_or_imp, eq_iff_iff]
 constructor
 ·rintro ⟨⟨h1, h2⟩, h3, h4⟩; exact ⟨fun p hp => ⟨(h1 p hp).1, (h1 p hp).2, h3 p hp⟩, h2, h4⟩
 ·rintro ⟨h1, h2, h4⟩; exact ⟨⟨fun p hp => ⟨(h1 p hp).1, (h1 p hp).2.1⟩, h2⟩, fun p hp => (h1 p hp).2.2, h4⟩
def tA (ti : TI) (rows : Rows) (len : Nat) (ps : List (Nat × PV)) (K : PV → Prop) : Prop :=
 match ti with
 | .slice _ n _ _ => iG n 0 ps fun els => aH (len = els.length ∧ len ≤ 4096 ∧ n ≤ 4096 ∧ y7 rows els) (K (.iZ (els.map fun e => e.map (fz rows))))
 | _ => False
@[congr] theorem afJ {t t' : TI} {rows : Rows} {len : Nat} {ps P6 : List (Nat × PV)} {K : PV → Prop} (h : t = t') (h2 : ps = P6) : tA t rows len ps K = tA t' rows len P6 K := by rw [h, h2]
@[simp] theorem afK {e n b : Nat} {z : List PV} {rows : Rows} {len : Nat} {ps : List (Nat × PV)} {K : PV → Prop} : tA (.slice e n b z) rows len ps K = iG n 0 ps fun els => aH (len = els.length ∧ len ≤ 4096 ∧ n ≤ 4096 ∧ y7 rows els) (K (.iZ (els.map fun e => e.map (fz rows)))) := rfl
theorem CW {ti : TI} {rows : Rows} {len : Nat} {ps : List (Nat × PV)} {K : PV → Prop} : aU (fun v => LZ ti rows len ps v) K = tA ti rows len ps K := by
 simp only [LZ, tA]
 cases ti with
 | slice e n b z =>
  apply propext; simp only [aU]
  rw [← u3]
  constructor
  ·rintro ⟨v, ⟨l, h1, h2, h3, h4, h5, h6, rfl⟩, h7⟩; exact ⟨l, h1, ⟨h2, h3, h4, h5, h6⟩, h7⟩
  ·rintro ⟨l, h1, ⟨h2, h3, h4, h5, h6⟩, h7⟩; exact ⟨_, ⟨l, h1, h2, h3, h4, h5, h6, rfl⟩, h7⟩
 | _ => simp [aU]
def tB (i : Nat) (x : PV) (K : PV → Prop) : Prop :=
 match x with
 | .eP l => eK (kJ l i) K
 | _ => False
@[congr] theorem afL {i : Nat} {x x' : PV} {K : PV → Prop} (h : x = x') : tB i x K = tB i x' K := by rw [h]
@[simp] theorem ak7 {i : Nat} {l : List PV} {K : PV → Prop} : tB i (.eP l) K = eK (kJ l i) K := rfl
theorem CX {i : Nat} {x : PV} {K : PV → Prop} : aU (fun v => LI i x v) K = tB i x K := by
 simp only [LI, tB]
 cases x <;> first | rfl | simp [aU]
def BR : List Oper → Nat → Option Tmp
 | [], _ => none
 | o :: _, 0 => o.dst
 | _ :: os, n + 1 => BR os n
theorem EX : ∀ (ops : List Oper) (j : Nat), BR ops j = (ops[j]?).bind (·.dst)
 | [], j => by simp [BR]
 | o :: os, 0 => by simp [BR]
 | o :: os, n + 1 => by simp [BR, EX os n]
@[simp] theorem ak8 {d : Option Tmp} {op : Op} {ty : TypeId} {pos : String} {af : Array Edge} {g : Option (Nat × Bool)} {os : List Oper} : BR (⟨d, op, ty, pos, af, g⟩ :: os) 0 = d := rfl
@[simp] theorem ak9 {o : Oper} {os : List Oper} {n : Nat} : BR (o :: os) (n + 1) = BR os n := rfl
def nU (o : Option Tmp) (f : Nat → PV) (w : Bool) (A B : Prop) : Prop :=
 match o with
 | none => False
 | some e => stepG (f e) w A B
@[congr] theorem acS {o o' : Option Tmp} {f : Nat → PV} {w : Bool} {A B : Prop} (h : o = o') : nU o f w A B = nU o' f w A B := by rw [h]
@[simp] theorem afM {e : Tmp} {f : Nat → PV} {w : Bool} {A B : Prop} : nU (some e) f w A B = stepG (f e) w A B := rfl
@[simp] theorem ala {o : Option Tmp} {f : Nat → PV} {w : Bool} {A B : Prop} : go (nU o f w A B) = nU o f w A B := rfl
section
variable {E : Env} {ops os : List Oper} {K : PS → Prop} {f : Nat → PV} {rows : Rows} {clk : Nat} {d : Option Tmp} {ty : TypeId} {pos : String} {af : Array Edge} {k : Nat} {bL : Nat → Nat → Prop} {aO : Nat → Nat → Prop}
theorem HY {op : Op} {j : Nat} {want : Bool} : aL E ops (⟨d, op, ty, pos, af, some (j, want)⟩ :: os) K ⟨f, rows, clk⟩ = nU ((ops[j]?).bind (·.dst)) f want (aL E ops (⟨d, op, ty, pos, af, none⟩ :: os) K ⟨f, rows, clk⟩) (aL E ops os K ⟨put f d (.eP []), rows, clk⟩) := MG
theorem HZ {op : Op} {j : Nat} {want : Bool} : aN E ops clk k (⟨d, op, ty, pos, af, some (j, want)⟩ :: os) K ⟨f, rows, bL, aO⟩ = nU ((ops[j]?).bind (·.dst)) f want (aN E ops clk k (⟨d, op, ty, pos, af, none⟩ :: os) K ⟨f, rows, bL, aO⟩) (aN E ops clk (k + 1) os K ⟨put f d (.eP []), rows, bL, aO⟩) := MO
end
section
variable {E : Env} {ops os : List Oper} {K : PS → Prop} {f : Nat → PV} {rows : Rows} {clk : Nat} {d : Option Tmp} {ty : TypeId} {pos : String} {af : Array Edge} {k : Nat} {bL : Nat → Nat → Prop} {aO : Nat → Nat → Prop}
theorem MW {t : TypeId} {x : Operand} : aL E ops (⟨d, .load t x, ty, pos, af, none⟩ :: os) K ⟨f, rows, clk⟩ = jV E t rows (aR f x) fun v => aL E ops os K ⟨put f d v, rows, clk⟩ := by rw [TC, r8]
theorem H0 {t : TypeId} {i : Nat} {x : Operand} : aL E ops (⟨d, .field t x i, ty, pos, af, none⟩ :: os) K ⟨f, rows, clk⟩ = i6 (E.ty t) i (aR f x) fun v => aL E ops os K ⟨put f d v, rows, clk⟩ := by rw [MH, wE]
theorem xC {t : TypeId} {i : Nat} {x : Operand} : aL E ops (⟨d, .fieldAddr t x i, ty, pos, af, none⟩ :: os) K ⟨f, rows, clk⟩ = cY (E.ty t) rows i (aR f x) fun v => aL E ops os K ⟨put f d v, rows, clk⟩ := by rw [yX, oL]
theorem xD {t : TypeId} {x y : Operand} : aL E ops (⟨d, .indexAddr t x y, ty, pos, af, none⟩ :: os) K ⟨f, rows, clk⟩ = bU (E.ty t) rows (aR f x) (aR f y) fun v => aL E ops os K ⟨put f d v, rows, clk⟩ := by rw [yY, oM]
theorem H3 {t : TypeId} {x : Operand} {lo hi mx : Option Operand} : aL E ops (⟨d, .slice t x lo hi mx, ty, pos, af, none⟩ :: os) K ⟨f, rows, clk⟩ = eQ (E.ty t) rows (aR f x) (lo.map (aR f)) (hi.map (aR f)) (mx.map (aR f)) fun v => aL E ops os K ⟨put f d v, rows, clk⟩ := by rw [MI, wG]
theorem TN {t : TypeId} {x : Operand} : aL E ops (⟨d, .call { callee := .builtin .len, args := ⟨[x]⟩, argTypes := ⟨[t]⟩ }, ty, pos, af, none⟩ :: os) K ⟨f, rows, clk⟩ = kM (E.ty t) rows (aR f x) fun v => aL E ops os K ⟨put f d v, rows, clk⟩ := by rw [XN, CU]
theorem H4 {t : TypeId} {p x : Operand} : aL E ops (⟨none, .store t p x, ty, pos, af, none⟩ :: os) K ⟨f, rows, clk⟩ = i7 E t rows (aR f p) (aR f x) fun id r => aL E ops os K ⟨f, dE rows id (some r), clk⟩ := by rw [MM, CV]
theorem EY {t t2 : TypeId} {x y : Operand} : aL E ops (⟨d, .call { callee := .builtin .append, args := ⟨[x, y]⟩, argTypes := ⟨[t, t2]⟩ }, ty, pos, af, none⟩ :: os) K ⟨f, rows, clk⟩ =
  aH (t2 = t ∨ WN (E.ty t2) = true) (pI (E.ty t) rows (aR f x) (aR f y) clk (d.getD 0) fun v rows clk => aL E ops os K ⟨put f d v, rows, clk⟩) := by rw [HR, acO]
theorem MX {t : TypeId} {x : Operand} : aN E ops clk k (⟨d, .load t x, ty, pos, af, none⟩ :: os) K ⟨f, rows, bL, aO⟩ = jV E t (dN .any ops k aO rows) (aR f x) fun v => aN E ops clk (k + 1) os K ⟨put f d v, rows, kA k (aZ (aR f x)) bL, aO⟩ := by rw [TJ, r8]
theorem H5 {t : TypeId} {i : Nat} {x : Operand} : aN E ops clk k (⟨d, .field t x i, ty, pos, af, none⟩ :: os) K ⟨f, rows, bL, aO⟩ = i6 (E.ty t) i (aR f x) fun v => aN E ops clk (k + 1) os K ⟨put f d v, rows, bL, aO⟩ := by rw [MP, wE]
theorem xE {t : TypeId} {i : Nat} {x : Operand} : aN E ops clk k (⟨d, .fieldAddr t x i, ty, pos, af, none⟩ :: os) K ⟨f, rows, bL, aO⟩ = cY (E.ty t) (dN .any ops k aO rows) i (aR f x) fun v => aN E ops clk (k + 1) os K ⟨put f d v, rows, kA k (aZ (aR f x)) bL, aO⟩ := by rw [y3, oL]
theorem xF {t : TypeId} {x y : Operand} : aN E ops clk k (⟨d, .indexAddr t x y, ty, pos, af, none⟩ :: os) K ⟨f, rows, bL, aO⟩ = bU (E.ty t) (dN .any ops k aO rows) (aR f x) (aR f y) fun v => aN E ops clk (k + 1) os K ⟨put f d v, rows, kA k (aZ (aR f x)) bL, aO⟩ := by rw [y4, oM]
theorem H6 {t : TypeId} {x : Operand} {lo hi mx : Option Operand} : aN E ops clk k (⟨d, .slice t x lo hi mx, ty, pos, af, none⟩ :: os) K ⟨f, rows, bL, aO⟩ = eQ (E.ty t) (dN .any ops k aO rows) (aR f x) (lo.map (aR f)) (hi.map (aR f)) (mx.map (aR f)) fun v => aN E ops clk (k + 1) os K ⟨put f d v, rows, kA k (aZ (aR f x)) bL, aO⟩ := by rw [MQ, wG]
theorem TO {t : TypeId} {x : Operand} : aN E ops clk k (⟨d, .call { callee := .builtin .len, args := ⟨[x]⟩, argTypes := ⟨[t]⟩ }, ty, pos, af, none⟩ :: os) K ⟨f, rows, bL, aO⟩ = kM (E.ty t) (dN .any ops k aO rows) (aR f x) fun v => aN E ops clk (k + 1) os K ⟨put f d v, rows, kA k (aZ (aR f x)) bL, aO⟩ := by rw [XS, CU]
theorem H7 {t : TypeId} {p x : Operand} : aN E ops clk k (⟨none, .store t p x, ty, pos, af, none⟩ :: os) K ⟨f, rows, bL, aO⟩ =
  i7 E t (dN .any ops k aO rows) (aR f p) (aR f x) fun id r => aH (yQ .any ops k id bL) (aN E ops clk (k + 1) os K ⟨f, dE rows id (some r), kA k (aZ (aR f p) ++ ((bO (aR f x)).getD []).flatMap aZ) bL, nS k id aO⟩) := by rw [MS, ← CV]; rfl
theorem P7 {x : Operand} : go (aL E ops (⟨d, .move x, ty, pos, af, none⟩ :: os) K ⟨f, rows, clk⟩) = go (aL E ops os K ⟨put f d (aR f x), rows, clk⟩) := S9
theorem CY {x : Operand} : go (aL E ops (⟨d, .assign x, ty, pos, af, none⟩ :: os) K ⟨f, rows, clk⟩) = go (aL E ops os K ⟨put f d (aR f x), rows, clk⟩) := HQ
theorem acT {c a b : Operand} : go (aL E ops (⟨d, .pick c a b, ty, pos, af, none⟩ :: os) K ⟨f, rows, clk⟩) = gM (aR f c) true (aL E ops os K ⟨put f d (aR f a), rows, clk⟩) (aL E ops os K ⟨put f d (aR f b), rows, clk⟩) := TA
theorem X0 {op : BinOp} {t t2 : TypeId} {x y : Operand} : go (aL E ops (⟨d, .binOp op t x y t2, ty, pos, af, none⟩ :: os) K ⟨f, rows, clk⟩) = aU (fun v => EA E op t (aR f x) (aR f y) v) fun v => aL E ops os K ⟨put f d v, rows, clk⟩ := XM
theorem anc {op : UnOp} {t : TypeId} {x : Operand} : go (aL E ops (⟨d, .unOp op t x, ty, pos, af, none⟩ :: os) K ⟨f, rows, clk⟩) = aU (fun v => yun op (aR f x) v) fun v => aL E ops os K ⟨put f d v, rows, clk⟩ := acI
theorem EZ {s t : TypeId} {x : Operand} : go (aL E ops (⟨d, .convert s t x, ty, pos, af, none⟩ :: os) K ⟨f, rows, clk⟩) = aU (fun v => rI (E.ty s) (E.ty t) (aR f x) v) fun v => aL E ops os K ⟨put f d v, rows, clk⟩ := TB
theorem MY {i : Nat} {x : Operand} : go (aL E ops (⟨d, .extract x i, ty, pos, af, none⟩ :: os) K ⟨f, rows, clk⟩) = tB i (aR f x) fun v => aL E ops os K ⟨put f d v, rows, clk⟩ := by
 show aL E ops (⟨d, .extract x i, ty, pos, af, none⟩ :: os) K ⟨f, rows, clk⟩ = _
 rw [ET, CX]
theorem acU {t : TypeId} {x : Operand} : go (aL E ops (⟨d, .load t x, ty, pos, af, none⟩ :: os) K ⟨f, rows, clk⟩) = jV E t rows (aR f x) fun v => aL E ops os K ⟨put f d v, rows, clk⟩ := MW
theorem X1 {t : TypeId} {i : Nat} {x : Operand} : go (aL E ops (⟨d, .field t x i, ty, pos, af, none⟩ :: os) K ⟨f, rows, clk⟩) = i6 (E.ty t) i (aR f x) fun v => aL E ops os K ⟨put f d v, rows, clk⟩ := H0
theorem E0 {t : TypeId} {i : Nat} {x : Operand} : go (aL E ops (⟨d, .fieldAddr t x i, ty, pos, af, none⟩ :: os) K ⟨f, rows, clk⟩) = cY (E.ty t) rows i (aR f x) fun v => aL E ops os K ⟨put f d v, rows, clk⟩ := xC
theorem E1 {t : TypeId} {x y : Operand} : go (aL E ops (⟨d, .indexAddr t x y, ty, pos, af, none⟩ :: os) K ⟨f, rows, clk⟩) = bU (E.ty t) rows (aR f x) (aR f y) fun v => aL E ops os K ⟨put f d v, rows, clk⟩ := xD
theorem X3 {t : TypeId} {x : Operand} {lo hi mx : Option Operand} : go (aL E ops (⟨d, .slice t x lo hi mx, ty, pos, af, none⟩ :: os) K ⟨f, rows, clk⟩) = eQ (E.ty t) rows (aR f x) (lo.map (aR f)) (hi.map (aR f)) (mx.map (aR f)) fun v => aL E ops os K ⟨put f d v, rows, clk⟩ := H3
theorem X4 {t : TypeId} {parts : Array (Nat × Operand)} : go (aL E ops (⟨d, .build t parts, ty, pos, af, none⟩ :: os) K ⟨f, rows, clk⟩) = j5 (E.ty t) (parts.toList.map fun x => (x.1, aR f x.2)) fun v => aL E ops os K ⟨put f d v, rows, clk⟩ := by
 show aL E ops (⟨d, .build t parts, ty, pos, af, none⟩ :: os) K ⟨f, rows, clk⟩ = _
 rw [MJ, wH]
theorem H8 {t : TypeId} {x y : Operand} : go (aL E ops (⟨d, .index t x y, ty, pos, af, none⟩ :: os) K ⟨f, rows, clk⟩) = aU (fun v => rW (E.ty t) (aR f x) (aR f y) v) fun v => aL E ops os K ⟨put f d v, rows, clk⟩ := ML
theorem H9 {x : Operand} : go (aL E ops (⟨d, .nilCheck x, ty, pos, af, none⟩ :: os) K ⟨f, rows, clk⟩) = rP rows (aR f x) fun v => aL E ops os K ⟨put f d v, rows, clk⟩ := by show aL E ops _ K _ = _; rw [BN, CT]
theorem ah3 {t : TypeId} {x : Operand} : go (aL E ops (⟨d, .call { callee := .builtin .len, args := ⟨[x]⟩, argTypes := ⟨[t]⟩ }, ty, pos, af, none⟩ :: os) K ⟨f, rows, clk⟩) = kM (E.ty t) rows (aR f x) fun v => aL E ops os K ⟨put f d v, rows, clk⟩ := TN
theorem ah4 {ts : Array TypeId} {x y : Operand} : go (aL E ops (⟨d, .call { callee := .builtin .max, args := ⟨[x, y]⟩, argTypes := ts }, ty, pos, af, none⟩ :: os) K ⟨f, rows, clk⟩) = aU (fun v => LK (aR f x) (aR f y) v) fun v => aL E ops os K ⟨put f d v, rows, clk⟩ := XO
theorem ah5 {ts : Array TypeId} {x y : Operand} : go (aL E ops (⟨d, .call { callee := .builtin .min, args := ⟨[x, y]⟩, argTypes := ts }, ty, pos, af, none⟩ :: os) K ⟨f, rows, clk⟩) = aU (fun v => LM (aR f x) (aR f y) v) fun v => aL E ops os K ⟨put f d v, rows, clk⟩ := XP
theorem BS {t : TypeId} {len : Nat} {parts : Array (Nat × Operand)} : go (aL E ops (⟨d, .buildSlice t len parts, ty, pos, af, none⟩ :: os) K ⟨f, rows, clk⟩) = tA (E.ty t) rows len (parts.toList.map fun x => (x.1, aR f x.2)) fun v => aL E ops os K ⟨put f d v, rows, clk⟩ := by
 show aL E ops (⟨d, .buildSlice t len parts, ty, pos, af, none⟩ :: os) K ⟨f, rows, clk⟩ = _
 rw [xA, CW]
theorem X5 {t : TypeId} {p x : Operand} : go (aL E ops (⟨none, .store t p x, ty, pos, af, none⟩ :: os) K ⟨f, rows, clk⟩) = i7 E t rows (aR f p) (aR f x) fun id r => aL E ops os K ⟨f, dE rows id (some r), clk⟩ := H4
theorem X6 {t : TypeId} : go (aL E ops (⟨d, .alloc t, ty, pos, af, none⟩ :: os) K ⟨f, rows, clk⟩) = aH ((E.ty t).known = true) (aL E ops os K ⟨put f d (.ptr (d.getD 0) clk 0 0), dE rows (d.getD 0) (some ⟨clk, t, (E.ty t).size, [(E.ty t).zero]⟩), clk + 1⟩) := MN
theorem ah6 {t : TypeId} {x : Operand} : go (aL E ops (⟨d, .box t x, ty, pos, af, none⟩ :: os) K ⟨f, rows, clk⟩) = aH ((E.ty t).known = true) (eK (bO (aR f x)) fun l => aH (fW rows l ∧ l.length = (E.ty t).size) (aL E ops os K ⟨put f d (.ptr (d.getD 0) clk 0 0), dE rows (d.getD 0) (some ⟨clk, t, (E.ty t).size, [l]⟩), clk + 1⟩)) := by
 show aL E ops (⟨d, .box t x, ty, pos, af, none⟩ :: os) K ⟨f, rows, clk⟩ = _
 rw [XQ]
 simp only [aH, eK, fW, and_assoc]
theorem E2 {t : TypeId} {l c : Operand} : go (aL E ops (⟨d, .makeSlice t l c, ty, pos, af, none⟩ :: os) K ⟨f, rows, clk⟩) = pG (E.ty t) (aR f l) (aR f c) fun e n z x => aL E ops os K ⟨put f d (.own (d.getD 0) clk 0 x.toNat), dE rows (d.getD 0) (some ⟨clk, e, n, List.replicate x.toNat z⟩), clk + 1⟩ := yZ
theorem TP {t t2 : TypeId} {x y : Operand} : go (aL E ops (⟨d, .call { callee := .builtin .append, args := ⟨[x, y]⟩, argTypes := ⟨[t, t2]⟩ }, ty, pos, af, none⟩ :: os) K ⟨f, rows, clk⟩) = aH (t2 = t ∨ WN (E.ty t2) = true) (pI (E.ty t) rows (aR f x) (aR f y) clk (d.getD 0) fun v rows clk => aL E ops os K ⟨put f d v, rows, clk⟩) := EY
theorem acV {fo : Operand} {args : Array Operand} {ts : Array TypeId} : go (aL E ops (⟨d, .call { callee := .value fo, args := args, argTypes := ts }, ty, pos, af, none⟩ :: os) K ⟨f, rows, clk⟩) = pH E (aR f fo) (args.toList.map (aR f)) rows clk fun v rows clk => aL E ops os K ⟨put f d v, rows, clk⟩ := TE
theorem IA {g : FuncId} {bR : Array Operand} : go (aL E ops (⟨d, .makeFunc (.func g) ⟨[]⟩ bR, ty, pos, af, none⟩ :: os) K ⟨f, rows, clk⟩) = aH (((bR.toList.map (aR f)).map (pz rows)).all eY = true ∧ dM rows ((bR.toList.map (aR f)).flatMap dA))
      (aL E ops os K ⟨put f d (.fn g ((bR.toList.map (aR f)).map (pz rows))), CL rows ((bR.toList.map (aR f)).flatMap dA), clk⟩) := BO
theorem X7 {op : Op} {j : Nat} {want : Bool} : go (aL E ops (⟨d, op, ty, pos, af, some (j, want)⟩ :: os) K ⟨f, rows, clk⟩) = nU (BR ops j) f want (aL E ops (⟨d, op, ty, pos, af, none⟩ :: os) K ⟨f, rows, clk⟩) (aL E ops os K ⟨put f d (.eP []), rows, clk⟩) := by
 rw [EX, ← HY]; rfl
theorem acW {x : Operand} : go (aN E ops clk k (⟨d, .move x, ty, pos, af, none⟩ :: os) K ⟨f, rows, bL, aO⟩) = go (aN E ops clk (k + 1) os K ⟨put f d (aR f x), rows, bL, aO⟩) := TF
theorem TQ {x : Operand} : go (aN E ops clk k (⟨d, .assign x, ty, pos, af, none⟩ :: os) K ⟨f, rows, bL, aO⟩) = go (aN E ops clk (k + 1) os K ⟨put f d (aR f x), rows, bL, aO⟩) := HT
theorem acX {c a b : Operand} : go (aN E ops clk k (⟨d, .pick c a b, ty, pos, af, none⟩ :: os) K ⟨f, rows, bL, aO⟩) = gM (aR f c) true (aN E ops clk (k + 1) os K ⟨put f d (aR f a), rows, bL, aO⟩) (aN E ops clk (k + 1) os K ⟨put f d (aR f b), rows, bL, aO⟩) := TG
theorem ah7 {op : BinOp} {t t2 : TypeId} {x y : Operand} : go (aN E ops clk k (⟨d, .binOp op t x y t2, ty, pos, af, none⟩ :: os) K ⟨f, rows, bL, aO⟩) = aU (fun v => EA E op t (aR f x) (aR f y) v) fun v => aN E ops clk (k + 1) os K ⟨put f d v, rows, bL, aO⟩ := XR
theorem ane {op : UnOp} {t : TypeId} {x : Operand} : go (aN E ops clk k (⟨d, .unOp op t x, ty, pos, af, none⟩ :: os) K ⟨f, rows, bL, aO⟩) = aU (fun v => yun op (aR f x) v) fun v => aN E ops clk (k + 1) os K ⟨put f d v, rows, bL, aO⟩ := acK
theorem acY {s t : TypeId} {x : Operand} : go (aN E ops clk k (⟨d, .convert s t x, ty, pos, af, none⟩ :: os) K ⟨f, rows, bL, aO⟩) = aU (fun v => rI (E.ty s) (E.ty t) (aR f x) v) fun v => aN E ops clk (k + 1) os K ⟨put f d v, rows, bL, aO⟩ := TH
theorem MZ {i : Nat} {x : Operand} : go (aN E ops clk k (⟨d, .extract x i, ty, pos, af, none⟩ :: os) K ⟨f, rows, bL, aO⟩) = tB i (aR f x) fun v => aN E ops clk (k + 1) os K ⟨put f d v, rows, bL, aO⟩ := by
 show aN E ops clk k (⟨d, .extract x i, ty, pos, af, none⟩ :: os) K ⟨f, rows, bL, aO⟩ = _
 rw [EU, CX]
theorem acZ {t : TypeId} {x : Operand} : go (aN E ops clk k (⟨d, .load t x, ty, pos, af, none⟩ :: os) K ⟨f, rows, bL, aO⟩) = jV E t (dN .any ops k aO rows) (aR f x) fun v => aN E ops clk (k + 1) os K ⟨put f d v, rows, kA k (aZ (aR f x)) bL, aO⟩ := MX
theorem X8 {t : TypeId} {i : Nat} {x : Operand} : go (aN E ops clk k (⟨d, .field t x i, ty, pos, af, none⟩ :: os) K ⟨f, rows, bL, aO⟩) = i6 (E.ty t) i (aR f x) fun v => aN E ops clk (k + 1) os K ⟨put f d v, rows, bL, aO⟩ := H5
theorem E3 {t : TypeId} {i : Nat} {x : Operand} : go (aN E ops clk k (⟨d, .fieldAddr t x i, ty, pos, af, none⟩ :: os) K ⟨f, rows, bL, aO⟩) = cY (E.ty t) (dN .any ops k aO rows) i (aR f x) fun v => aN E ops clk (k + 1) os K ⟨put f d v, rows, kA k (aZ (aR f x)) bL, aO⟩ := xE
theorem E4 {t : TypeId} {x y : Operand} : go (aN E ops clk k (⟨d, .indexAddr t x y, ty, pos, af, none⟩ :: os) K ⟨f, rows, bL, aO⟩) = bU (E.ty t) (dN .any ops k aO rows) (aR f x) (aR f y) fun v => aN E ops clk (k + 1) os K ⟨put f d v, rows, kA k (aZ (aR f x)) bL, aO⟩ := xF
theorem X9 {t : TypeId} {x : Operand} {lo hi mx : Option Operand} : go (aN E ops clk k (⟨d, .slice t x lo hi mx, ty, pos, af, none⟩ :: os) K ⟨f, rows, bL, aO⟩) = eQ (E.ty t) (dN .any ops k aO rows) (aR f x) (lo.map (aR f)) (hi.map (aR f)) (mx.map (aR f)) fun v => aN E ops clk (k + 1) os K ⟨put f d v, rows, kA k (aZ (aR f x)) bL, aO⟩ := H6
theorem YA {t : TypeId} {parts : Array (Nat × Operand)} : go (aN E ops clk k (⟨d, .build t parts, ty, pos, af, none⟩ :: os) K ⟨f, rows, bL, aO⟩) = j5 (E.ty t) (parts.toList.map fun x => (x.1, aR f x.2)) fun v => aN E ops clk (k + 1) os K ⟨put f d v, rows, bL, aO⟩ := by
 show aN E ops clk k (⟨d, .build t parts, ty, pos, af, none⟩ :: os) K ⟨f, rows, bL, aO⟩ = _
 rw [MR, wH]
theorem IB {x : Operand} : go (aN E ops clk k (⟨d, .nilCheck x, ty, pos, af, none⟩ :: os) K ⟨f, rows, bL, aO⟩) = rP (dN .any ops k aO rows) (aR f x) fun v => aN E ops clk (k + 1) os K ⟨put f d v, rows, kA k (aZ (aR f x)) bL, aO⟩ := by show aN E ops clk k _ K _ = _; rw [BP, CT]
theorem ah8 {t : TypeId} {x : Operand} : go (aN E ops clk k (⟨d, .call { callee := .builtin .len, args := ⟨[x]⟩, argTypes := ⟨[t]⟩ }, ty, pos, af, none⟩ :: os) K ⟨f, rows, bL, aO⟩) = kM (E.ty t) (dN .any ops k aO rows) (aR f x) fun v => aN E ops clk (k + 1) os K ⟨put f d v, rows, kA k (aZ (aR f x)) bL, aO⟩ := TO
theorem ah9 {ts : Array TypeId} {x y : Operand} : go (aN E ops clk k (⟨d, .call { callee := .builtin .max, args := ⟨[x, y]⟩, argTypes := ts }, ty, pos, af, none⟩ :: os) K ⟨f, rows, bL, aO⟩) = aU (fun v => LK (aR f x) (aR f y) v) fun v => aN E ops clk (k + 1) os K ⟨put f d v, rows, bL, aO⟩ := XT
theorem aia {ts : Array TypeId} {x y : Operand} : go (aN E ops clk k (⟨d, .call { callee := .builtin .min, args := ⟨[x, y]⟩, argTypes := ts }, ty, pos, af, none⟩ :: os) K ⟨f, rows, bL, aO⟩) = aU (fun v => LM (aR f x) (aR f y) v) fun v => aN E ops clk (k + 1) os K ⟨put f d v, rows, bL, aO⟩ := XU
theorem BT {t : TypeId} {len : Nat} {parts : Array (Nat × Operand)} : go (aN E ops clk k (⟨d, .buildSlice t len parts, ty, pos, af, none⟩ :: os) K ⟨f, rows, bL, aO⟩) = tA (E.ty t) (dN .any ops k aO rows) len (parts.toList.map fun x => (x.1, aR f x.2)) fun v => aN E ops clk (k + 1) os K ⟨put f d v, rows, bL, aO⟩ := by
 show aN E ops clk k (⟨d, .buildSlice t len parts, ty, pos, af, none⟩ :: os) K ⟨f, rows, bL, aO⟩ = _
 rw [xB, CW]
theorem YB {t : TypeId} {p x : Operand} : go (aN E ops clk k (⟨none, .store t p x, ty, pos, af, none⟩ :: os) K ⟨f, rows, bL, aO⟩) = i7 E t (dN .any ops k aO rows) (aR f p) (aR f x) fun id r => aH (yQ .any ops k id bL) (aN E ops clk (k + 1) os K ⟨f, dE rows id (some r), kA k (aZ (aR f p) ++ ((bO (aR f x)).getD []).flatMap aZ) bL, nS k id aO⟩) := H7
theorem YC {t : TypeId} : go (aN E ops clk k (⟨d, .alloc t, ty, pos, af, none⟩ :: os) K ⟨f, rows, bL, aO⟩) = aH ((E.ty t).known = true ∧ yQ .any ops k (d.getD 0) bL) (aN E ops (clk + 1) (k + 1) os K ⟨put f d (.ptr (d.getD 0) clk 0 0), dE rows (d.getD 0) (some ⟨clk, t, (E.ty t).size, [(E.ty t).zero]⟩), bL, nS k (d.getD 0) aO⟩) := MT
theorem aib {t : TypeId} {x : Operand} : go (aN E ops clk k (⟨d, .box t x, ty, pos, af, none⟩ :: os) K ⟨f, rows, bL, aO⟩) = aH ((E.ty t).known = true) (eK (bO (aR f x)) fun l => aH (fW (fun _ => none) l ∧ l.length = (E.ty t).size ∧ yQ .any ops k (d.getD 0) bL) (aN E ops (clk + 1) (k + 1) os K ⟨put f d (.ptr (d.getD 0) clk 0 0), dE rows (d.getD 0) (some ⟨clk, t, (E.ty t).size, [l]⟩), bL, nS k (d.getD 0) aO⟩)) := by
 show aN E ops clk k (⟨d, .box t x, ty, pos, af, none⟩ :: os) K ⟨f, rows, bL, aO⟩ = _
 rw [XW]
 simp only [aH, eK, fW]
theorem E5 {t : TypeId} {l c : Operand} : go (aN E ops clk k (⟨d, .makeSlice t l c, ty, pos, af, none⟩ :: os) K ⟨f, rows, bL, aO⟩) = pG (E.ty t) (aR f l) (aR f c) fun e n z x => aH (yQ .any ops k (d.getD 0) bL) (aN E ops (clk + 1) (k + 1) os K ⟨put f d (.own (d.getD 0) clk 0 x.toNat), dE rows (d.getD 0) (some ⟨clk, e, n, List.replicate x.toNat z⟩), bL, nS k (d.getD 0) aO⟩) := y5
def rR (t : TI) (rows : Rows) (x y : PV) (clk d : Nat) (K : PV → Nat → Row → Prop) : Prop :=
 match t with
 | .slice e n b _ => jL rows y fun l => aH (bB n l) (match x with
  | .nil => aH (l.length ≤ room ∧ l.length * b ≤ room) (K (.own d clk 0 l.length) d ⟨clk, e, n, l⟩)
  | .own id ver off len => bJ (rows id) ver fun r => aH (off = 0 ∧ len = r.els.length ∧ r.e = e ∧ r.size = n) (aH (len + l.length ≤ room ∧ (len + l.length) * b ≤ room) (K (.own id clk 0 (len + l.length)) id ⟨clk, e, n, r.els ++ l⟩))
  | _ => False)
 | _ => False
@[congr] theorem afN {t t' : TI} {rows rows' : Rows} {x x' y y' : PV} {clk d : Nat} {K : PV → Nat → Row → Prop} (h1 : t = t') (h2 : rows = rows') (h3 : x = x') (h4 : y = y') :
  rR t rows x y clk d K = rR t' rows' x' y' clk d K := by rw [h1, h2, h3, h4]
@[simp] theorem alb {e : TypeId} {n b : Nat} {z : List PV} {rows : Rows} {y : PV} {clk d : Nat} {K : PV → Nat → Row → Prop} : rR (.slice e n b z) rows .nil y clk d K = jL rows y fun l => aH (bB n l) (aH (l.length ≤ room ∧ l.length * b ≤ room) (K (.own d clk 0 l.length) d ⟨clk, e, n, l⟩)) := rfl
@[simp] theorem alc {e : TypeId} {n b : Nat} {z : List PV} {rows : Rows} {y : PV} {clk d id ver off len : Nat} {K : PV → Nat → Row → Prop} : rR (.slice e n b z) rows (.own id ver off len) y clk d K = jL rows y fun l => aH (bB n l) (bJ (rows id) ver fun r => aH (off = 0 ∧ len = r.els.length ∧ r.e = e ∧ r.size = n) (aH (len + l.length ≤ room ∧ (len + l.length) * b ≤ room) (K (.own id clk 0 (len + l.length)) id ⟨clk, e, n, r.els ++ l⟩))) := rfl
@[simp] theorem anf (t : TI) (r : Rows) (x y : PV) (c d : Nat) (K : PV → Nat → Row → Prop) : go (rR t r x y c d K) = rR t r x y c d K := rfl
theorem YD {t : TI} {rows : Rows} {x y : PV} {clk d : Nat} {K : PV → Nat → Row → Prop} : (∃ v id r, pE t rows x y clk d v (some (id, r)) ∧ K v id r) = rR t rows x y clk d K := by
 cases t with
 | slice e n b z =>
  simp only [rR, pE]
  rw [← P5]
  apply propext
  cases x with
  | nil =>
   simp only [aH, bB]
   constructor
   ·rintro ⟨v, id, r, ⟨l, h1, h2, h3, h4, rfl, h5⟩, h6⟩
    cases h5
    exact ⟨l, h1, h2, ⟨h3, h4⟩, h6⟩
   ·rintro ⟨l, h1, h2, ⟨h3, h4⟩, h6⟩
    exact ⟨_, _, _, ⟨l, h1, h2, h3, h4, rfl, rfl⟩, h6⟩
  | own id ver off len =>
   simp only [aH, bB, bJ]
   constructor
   ·rintro ⟨v, iW, r', ⟨l, h1, h2, r, h3, h4, h5, h6, h7, h8, h9, h10, rfl, h11⟩, h12⟩
    cases h11
    exact ⟨l, h1, h2, r, h3, h4, ⟨h5, h6, h7, h8⟩, ⟨h9, h10⟩, h12⟩
   ·rintro ⟨l, h1, h2, r, h3, h4, ⟨h5, h6, h7, h8⟩, ⟨h9, h10⟩, h12⟩
    exact ⟨_, _, _, ⟨l, h1, h2, r, h3, h4, h5, h6, h7, h8, h9, h10, rfl, rfl⟩, h12⟩
  | _ => simp [aH]
 | _ => simp [rR, pE]
theorem TR {t t2 : TypeId} {x y : Operand} : go (aN E ops clk k (⟨d, .call { callee := .builtin .append, args := ⟨[x, y]⟩, argTypes := ⟨[t, t2]⟩ }, ty, pos, af, none⟩ :: os) K ⟨f, rows, bL, aO⟩) =
  aH (t2 = t ∨ WN (E.ty t2) = true) (rR (E.ty t) (dN .any ops k aO rows) (aR f x) (aR f y) clk (d.getD 0) fun v id r => aH (yQ .any ops k id bL) (aN E ops (clk + 1) (k + 1) os K ⟨put f d v, dE rows id (some r), kA k (aZ (aR f x) ++ aZ (aR f y)) bL, nS k id aO⟩)) := by
 show aN E ops clk k (⟨d, .call { callee := .builtin .append, args := ⟨[x, y]⟩, argTypes := ⟨[t, t2]⟩ }, ty, pos, af, none⟩ :: os) K ⟨f, rows, bL, aO⟩ = _
 rw [HU]
 congr 1
 exact YD
theorem YE {s : Tmp} {args : Array Operand} {ts : Array TypeId} : go (aN E ops clk k (⟨d, .call { callee := .value (.tmp s), args := args, argTypes := ts }, ty, pos, af, none⟩ :: os) K ⟨f, rows, bL, aO⟩) = nT E (f s) (args.toList.map (aR f)) (dN .any ops k aO rows) fun v => aN E ops clk (k + 1) os K ⟨put f d v, rows, bL, aO⟩ := CR rfl
def qL (P : Program) (g : FuncId) (args : List PV) (c : Prop) (K : TypeId → Nat → List (List PV) → Prop) : Prop := ∃ e n els, (args.all eY = true ∧ gG P g args e n els ∧ c) ∧ K e n els
@[congr] theorem ab6 {P : Program} {g : FuncId} {args HS : List PV} {c c' : Prop} {K : TypeId → Nat → List (List PV) → Prop} (h : args = HS) (hc : c = c') : qL P g args c K = qL P g HS c' K := by rw [h, hc]
@[simp] theorem aic {P : Program} {g : FuncId} {args : List PV} {c : Prop} {K : TypeId → Nat → List (List PV) → Prop} : go (qL P g args c K) = qL P g args c K := rfl
theorem CZ {P : Program} {g : FuncId} {args : List PV} {c : Prop} {K : TypeId → Nat → List (List PV) → Prop} {e : TypeId} {n : Nat} {els : List (List PV)} (h : gG P g args e n els) (hp : args.all eY = true) (hc : c) (hK : go (K e n els)) : qL P g args c K := ⟨e, n, els, ⟨hp, h, hc⟩, hK⟩
theorem YF {g : FuncId} {args : Array Operand} {ts : Array TypeId} : go (aN E ops clk k (⟨d, .call { callee := .value (.func g), args := args, argTypes := ts }, ty, pos, af, none⟩ :: os) K ⟨f, rows, bL, aO⟩) =
  if E.writes g = true then qL E.P g (args.toList.map (aR f)) (yQ .any ops k (d.getD 0) bL) (fun e n els => aN E ops (clk + 1) (k + 1) os K ⟨put f d (.own (d.getD 0) clk 0 els.length), dE rows (d.getD 0) (some ⟨clk, e, n, els⟩), bL, nS k (d.getD 0) aO⟩)
  else nT E (.fn g []) (args.toList.map (aR f)) (dN .any ops k aO rows) fun v => aN E ops clk (k + 1) os K ⟨put f d v, rows, bL, aO⟩ := by
 split
 ·rename_i hw; exact MU hw
 ·rename_i hw; exact CR (by simpa [cT] using hw)
theorem IC {g : FuncId} {bR : Array Operand} : go (aN E ops clk k (⟨d, .makeFunc (.func g) ⟨[]⟩ bR, ty, pos, af, none⟩ :: os) K ⟨f, rows, bL, aO⟩) = aH ((bR.toList.map fun x => aR f x).all eY = true) (aN E ops clk (k + 1) os K ⟨put f d (.fn g (bR.toList.map fun x => aR f x)), rows, bL, aO⟩) := BQ
theorem YH {op : Op} {j : Nat} {want : Bool} : go (aN E ops clk k (⟨d, op, ty, pos, af, some (j, want)⟩ :: os) K ⟨f, rows, bL, aO⟩) = nU (BR ops j) f want (aN E ops clk k (⟨d, op, ty, pos, af, none⟩ :: os) K ⟨f, rows, bL, aO⟩) (aN E ops clk (k + 1) os K ⟨put f d (.eP []), rows, bL, aO⟩) := by
 rw [EX, ← HZ]; rfl
theorem YI {σ : PS} : go (aL E ops [] K σ) = K σ := rfl
theorem aid {st : ST} : go (aN E ops clk k [] K st) = go (K ⟨st.f, st.rows, clk⟩) := rfl
@[simp] theorem P8 {s : Nat} : aR f (.tmp s) = f s := rfl
@[simp] theorem anh {g : FuncId} : aR f (.func g) = .fn g [] := rfl
@[simp] theorem TS {v : Value} : aR f (.const v) = mL v := rfl
end
@[simp] theorem aie {k : IntKind} {n : Int} : mL (.int k n) = .int k n := rfl
@[simp] theorem afO {b : Bool} : mL (.bool b) = .bool b := rfl
@[simp] theorem M0 {s : ByteArray} : mL (.string s) = .str s := rfl
@[simp] theorem afP : mL (.pointer none) = .jI := rfl
@[simp] theorem afQ : iE (.pointer none) = .jI := rfl
@[simp] theorem aif : mL (.slice none 0 0) = .nil := rfl
@[simp] theorem aih {cs : List Value} : mL (.agg ⟨cs⟩) = .ag (cs.map iE) := rfl
@[simp] theorem aii {k : IntKind} {n : Int} : iE (.int k n) = .int k n := rfl
@[simp] theorem afR {b : Bool} : iE (.bool b) = .bool b := rfl
@[simp] theorem aij {s : ByteArray} : iE (.string s) = .str s := rfl
@[simp] theorem aik : iE (.slice none 0 0) = .nil := rfl
@[simp] theorem ani (R K : PV → Prop) : go (aU R K) = aU R K := rfl
@[simp] theorem anj (p : PV) (w : Bool) (A B : Prop) : go (stepG p w A B) = stepG p w A B := rfl
@[simp] theorem ank (p : PV) (w : Bool) (A B : Prop) : go (gM p w A B) = gM p w A B := rfl
@[simp] theorem anl (A B : Prop) : go (aH A B) = aH A B := rfl
@[simp] theorem anm (P : Program) (g : FuncId) (l : List PV) (K : PV → Prop) : go (s8 P g l K) = s8 P g l K := rfl
@[simp] theorem ail (o : Option Row) (v : Nat) (K : Row → Prop) : go (bJ o v K) = bJ o v K := rfl
@[simp] theorem asO (l : List (List PV)) (i : Nat) (K : List PV → Prop) : go (CS l i K) = CS l i K := rfl
@[simp] theorem asP (t : TI) (l : List PV) (j : Nat) (K : PV → Prop) : go (wD t l j K) = wD t l j K := rfl
@[simp] theorem ale (E : Env) (t : TypeId) (r : Rows) (p : PV) (K : PV → Prop) : go (jV E t r p K) = jV E t r p K := rfl
@[simp] theorem aim (t : TI) (i : Nat) (x : PV) (K : PV → Prop) : go (i6 t i x K) = i6 t i x K := rfl
@[simp] theorem aqE (p : Nat × Nat × Bool) (l : List PV) (K : PV → Prop) : go (EV p l K) = EV p l K := rfl
@[simp] theorem ann (r : Rows) (x : PV) (K : PV → Prop) : go (rP r x K) = rP r x K := rfl
@[simp] theorem YJ (t : TI) (r : Rows) (i : Nat) (x : PV) (K : PV → Prop) : go (cY t r i x K) = cY t r i x K := rfl
@[simp] theorem YK (t : TI) (r : Rows) (x y : PV) (K : PV → Prop) : go (bU t r x y K) = bU t r x y K := rfl
@[simp] theorem asQ (d : Nat) (o : Option PV) (K : Nat → Prop) : go (wF d o K) = wF d o K := rfl
@[simp] theorem ain (t : TI) (r : Rows) (x : PV) (a b c : Option PV) (K : PV → Prop) : go (eQ t r x a b c K) = eQ t r x a b c K := rfl
@[simp] theorem ano (t : TI) (r : Rows) (x : PV) (K : PV → Prop) : go (kM t r x K) = kM t r x K := rfl
@[simp] theorem aio (E : Env) (t : TypeId) (r : Rows) (p x : PV) (K : Nat → Row → Prop) : go (i7 E t r p x K) = i7 E t r p x K := rfl
@[simp] theorem anp (r : Rows) (y : PV) (K : List (List PV) → Prop) : go (jL r y K) = jL r y K := rfl
@[simp] theorem anq (t : TI) (r : Rows) (x y : PV) (c d : Nat) (K : PV → Rows → Nat → Prop) : go (pI t r x y c d K) = pI t r x y c d K := rfl
@[simp] theorem anr (t : TI) (x y : PV) (K : TypeId → Nat → List PV → Int → Prop) : go (pG t x y K) = pG t x y K := rfl
@[simp] theorem alf (E : Env) (p : PV) (l : List PV) (r : Rows) (clk : Nat) (K : PV → Rows → Nat → Prop) : go (pH E p l r clk K) = pH E p l r clk K := rfl
@[simp] theorem ans (P : Program) (g : FuncId) (l : List PV) (r : Rows) (clk : Nat) (K : PV → Rows → Nat → Prop) : go (vV P g l r clk K) = vV P g l r clk K := rfl
@[simp] theorem alg (E : Env) (p : PV) (l : List PV) (r : Rows) (K : PV → Prop) : go (nT E p l r K) = nT E p l r K := rfl
@[simp] theorem ant {fs : List (Nat × Nat × Bool)} {ps : List (Nat × PV)} {z : List PV} {K : List PV → Prop} : go (lC fs ps z K) = lC fs ps z K := rfl
@[simp] theorem aip {t : TI} {ps : List (Nat × PV)} {K : PV → Prop} : go (j5 t ps K) = j5 t ps K := rfl
@[simp] theorem alh {n k : Nat} {ps : List (Nat × PV)} {K : List (List PV) → Prop} : go (iG n k ps K) = iG n k ps K := rfl
@[simp] theorem anu {t : TI} {rows : Rows} {len : Nat} {ps : List (Nat × PV)} {K : PV → Prop} : go (tA t rows len ps K) = tA t rows len ps K := rfl
@[simp] theorem anv {i : Nat} {x : PV} {K : PV → Prop} : go (tB i x K) = tB i x K := rfl
@[simp] theorem aqF {α : Type} (o : Option α) (K : α → Prop) : go (eK o K) = eK o K := rfl
@[simp] theorem avI {α : Type} (p : α → Prop) : go (∃ x, p x) = ∃ x, go (p x) := rfl
@[simp] theorem anw : go False = False := rfl
@[simp] theorem avJ {p : Prop} : go (go p) = go p := rfl
@[simp] theorem afS {t : PV} {K : PV → Prop} : aU (fun v => v = t) K = go (K t) := i5
@[simp] theorem asR {t : PV} {K : PV → Prop} : aU (fun v => t = v) K = go (K t) := S8
@[simp] theorem ac0 {B : Prop} : aH True B = go B := ME
@[simp] theorem avK {A B : Prop} : stepG (.bool true) true A B = go A := XF
@[simp] theorem avL {A B : Prop} : stepG (.bool true) false A B = go B := XG
@[simp] theorem avM {A B : Prop} : stepG (.bool false) true A B = go B := XH
@[simp] theorem avN {A B : Prop} : stepG (.bool false) false A B = go A := XI
@[simp] theorem avO {w : Bool} {A B : Prop} : stepG (.eP []) w A B = go B := XJ
@[simp] theorem avP {A B : Prop} : gM (.bool true) true A B = go A := XC
@[simp] theorem avQ {A B : Prop} : gM (.bool true) false A B = go B := XD
@[simp] theorem avR {A B : Prop} : gM (.bool false) true A B = go B := XE
@[simp] theorem avS {A B : Prop} : gM (.bool false) false A B = go A := XK
theorem gA {c B : Prop} (h : c) : aH c B = go B := by simp [aH, go, h]
attribute [simp] iN XB yW XL ahN MF ES P7 CY acT X0 anc EZ MY acU X1 E0 E1 X3 X4 H8 H9 IB ah3 ah4 ah5 BS X5 X6 ah6 E2 TP acV IA X7 acW TQ acX ah7 ane acY MZ acZ X8 E3 E4 X9 YA ah8 ah9 aia BT YB YC aib E5 TR YE YF IC YH YI aid
attribute [simp] WN EA yun rI rW LK LM pG pH nT rH TI.known TI.size TI.zero TI.agg W5 acH HO room
theorem BU {E : Env} {ops : List Oper} {K : PS → Prop} {f : Nat → PV} {rows : Rows} {clk : Nat} : fO E 0 ops K ⟨f, rows, clk⟩ = aN E ops clk 0 ops K ⟨f, rows, fun _ _ => False, fun _ _ => False⟩ := by simp [fO]
@[simp] theorem ali {b : Bool} : eY (.bool b) = true := rfl
@[simp] theorem aiq {b : Bool} : bY (.bool b) = true := rfl
@[simp] theorem alj {b : Bool} : aZ (.bool b) = [] := rfl
@[simp] theorem alk {rows : Rows} {b : Bool} : gW rows (.bool b) = True := rfl
@[simp] theorem afT {b : Bool} : bO (.bool b) = some [.bool b] := rfl
@[simp] theorem afU {b : Bool} : dZ (.bool b) = some [.bool b] := rfl
@[simp] theorem anx {k : IntKind} {n : Int} : eY (.int k n) = true := rfl
@[simp] theorem alm {k : IntKind} {n : Int} : bY (.int k n) = true := rfl
@[simp] theorem anz {k : IntKind} {n : Int} : aZ (.int k n) = [] := rfl
@[simp] theorem anA {rows : Rows} {k : IntKind} {n : Int} : gW rows (.int k n) = True := rfl
@[simp] theorem air {k : IntKind} {n : Int} : bO (.int k n) = some [.int k n] := rfl
@[simp] theorem ais {k : IntKind} {n : Int} : dZ (.int k n) = some [.int k n] := rfl
@[simp] theorem anB {s : ByteArray} : eY (.str s) = true := rfl
@[simp] theorem aln {s : ByteArray} : bY (.str s) = true := rfl
@[simp] theorem anC {s : ByteArray} : aZ (.str s) = [] := rfl
@[simp] theorem anD {rows : Rows} {s : ByteArray} : gW rows (.str s) = True := rfl
@[simp] theorem ait {s : ByteArray} : bO (.str s) = some [.str s] := rfl
@[simp] theorem aiu {s : ByteArray} : dZ (.str s) = some [.str s] := rfl
@[simp] theorem alp  : eY .jI = true := rfl
@[simp] theorem aiv  : bY .jI = true := rfl
@[simp] theorem alq  : aZ .jI = [] := rfl
@[simp] theorem alr  : dA .jI = [] := rfl
@[simp] theorem aqG {rows : Rows} : fz rows .jI = .jI := rfl
@[simp] theorem aqH {rows : Rows} : pz rows .jI = .jI := rfl
@[simp] theorem als {rows : Rows}  : gW rows .jI = True := rfl
@[simp] theorem afV  : bO .jI = some [.jI] := rfl
@[simp] theorem afW  : dZ .jI = some [.jI] := rfl
@[simp] theorem anE  : eY .nil = true := rfl
@[simp] theorem alu  : bY .nil = true := rfl
@[simp] theorem anF  : aZ .nil = [] := rfl
@[simp] theorem anG {rows : Rows}  : gW rows .nil = True := rfl
@[simp] theorem aiw  : bO .nil = some [.nil] := rfl
@[simp] theorem aix  : dZ .nil = some [.nil] := rfl
@[simp] theorem aqI {l : List (List PV)} : eY (.sl l) = true := rfl
@[simp] theorem anH {l : List (List PV)} : bY (.sl l) = true := rfl
@[simp] theorem aqJ {l : List (List PV)} : aZ (.sl l) = [] := rfl
@[simp] theorem aqK {rows : Rows} {l : List (List PV)} : gW rows (.sl l) = True := rfl
@[simp] theorem alv {l : List (List PV)} : bO (.sl l) = some [.sl l] := rfl
@[simp] theorem alw {l : List (List PV)} : dZ (.sl l) = some [.sl l] := rfl
@[simp] theorem anI {l : List (List PV)} : eY (.iZ l) = true := rfl
@[simp] theorem alx {l : List (List PV)} : bY (.iZ l) = true := rfl
@[simp] theorem anJ {l : List (List PV)} : aZ (.iZ l) = [] := rfl
@[simp] theorem anK {rows : Rows} {l : List (List PV)} : gW rows (.iZ l) = True := rfl
@[simp] theorem aiy {l : List (List PV)} : bO (.iZ l) = some [.iZ l] := rfl
@[simp] theorem aiz {l : List (List PV)} : dZ (.iZ l) = some [.iZ l] := rfl
@[simp] theorem ac1 {l : List PV} : eY (.rd l) = true := rfl
@[simp] theorem YL {l : List PV} : bY (.rd l) = true := rfl
@[simp] theorem ac2 {l : List PV} : aZ (.rd l) = [] := rfl
@[simp] theorem aqL {rows : Rows} {l : List PV} : gW rows (.rd l) = True := rfl
@[simp] theorem aly {l : List PV} : bO (.rd l) = some [.rd l] := rfl
@[simp] theorem alz {l : List PV} : dZ (.rd l) = some [.rd l] := rfl
@[simp] theorem aqM {f : FuncId} {l : List PV} : eY (.fn f l) = true := rfl
@[simp] theorem anL {f : FuncId} {l : List PV} : bY (.fn f l) = true := rfl
@[simp] theorem aqN {f : FuncId} {l : List PV} : aZ (.fn f l) = [] := rfl
@[simp] theorem aqO {rows : Rows} {f : FuncId} {l : List PV} : gW rows (.fn f l) = True := rfl
@[simp] theorem alA {f : FuncId} {l : List PV} : bO (.fn f l) = some [.fn f l] := rfl
@[simp] theorem alB {f : FuncId} {l : List PV} : dZ (.fn f l) = some [.fn f l] := rfl
@[simp] theorem aqP {l : List PV} : eY (.ag l) = l.all bY := rfl
@[simp] theorem anM {l : List PV} : eY (.eP l) = true := rfl
@[simp] theorem alC {l : List PV} : bO (.ag l) = some l := rfl
@[simp] theorem alD {l : List PV} : dZ (.ag l) = some l := rfl
@[simp] theorem anN {id v o l : Nat} : aZ (.own id v o l) = [id] := rfl
@[simp] theorem anO {id v o l : Nat} : aZ (.ptr id v o l) = [id] := rfl
@[simp] theorem aiA {id v o l : Nat} : bO (.own id v o l) = some [.own id v o l] := rfl
@[simp] theorem aiB {id v o l : Nat} : bO (.ptr id v o l) = some [.ptr id v o l] := rfl
def rowAt (o : Option Row) (ver : Nat) : Prop := ∃ r, o = some r ∧ r.ver = ver
@[simp] theorem aiC {r : Row} {ver : Nat} : rowAt (some r) ver = (r.ver = ver) := by simp [rowAt]
@[simp] theorem anP {rows : Rows} {id v o l : Nat} : gW rows (.own id v o l) = rowAt (rows id) v := rfl
@[simp] theorem anQ {rows : Rows} {id v o l : Nat} : gW rows (.ptr id v o l) = rowAt (rows id) v := rfl
@[simp] theorem alE {e l : List PV} {j : Nat} : gN [e] 0 j l = [e.take j ++ l ++ e.drop (j + l.length)] := by simp [gN]
@[simp] theorem alF {e : List PV} {n : Nat} : rQ [e] 0 n = (n ≤ e.length) := by simp [rQ]
@[simp] theorem alG {E : Env} {σ : PS} {t : Tmp} {rs : List ResultVar} {K : List PV → Prop} : oK E σ (.tmp t :: rs) K = oK E σ rs fun vs => K (σ.f t :: vs) := rfl
@[simp] theorem alH {E : Env} {σ : PS} {K : List PV → Prop} : oK E σ [] K = K [] := rfl
@[simp] theorem aiD {E : Env} {σ : PS} {a : Tmp} {t : TypeId} {rs : List ResultVar} {K : List PV → Prop} : oK E σ (.cell a t :: rs) K = jV E t σ.rows (σ.f a) fun v => oK E σ rs fun vs => K (v :: vs) := by
 show (∃ v, rG E t σ.rows (σ.f a) v ∧ oK E σ rs fun vs => K (v :: vs)) = _
 rw [← r8]; rfl
@[simp] theorem ac3 {E : Env} {ops : List Oper} {K : PS → Prop} {f : Nat → PV} {rows : Rows} {clk : Nat} : go (fO E 0 ops K ⟨f, rows, clk⟩) = go (aN E ops clk 0 ops K ⟨f, rows, fun _ _ => False, fun _ _ => False⟩) := BU
theorem wrap_i64 {n : Int} (h1 : -9223372036854775808 ≤ n) (h2 : n < 9223372036854775808) : IntKind.i64.wrap n = n := by
 have e : IntKind.i64.wrap n = if n % 18446744073709551616 ≥ 9223372036854775808 then n % 18446744073709551616 - 18446744073709551616 else n % 18446744073709551616 := by
  simp [IntKind.wrap, IntKind.bits, IntKind.signed]
 rw [e]
 split <;> omega
theorem wrap_u64 {n : Int} (h1 : 0 ≤ n) (h2 : n < 18446744073709551616) : IntKind.u64.wrap n = n := by
 simp only [IntKind.wrap, IntKind.bits, IntKind.signed, Bool.false_and, Bool.false_eq_true, if_false]
 omega
theorem wrap_u32 {n : Int} (h1 : 0 ≤ n) (h2 : n < 4294967296) : IntKind.u32.wrap n = n := by
 simp only [IntKind.wrap, IntKind.bits, IntKind.signed, Bool.false_and, Bool.false_eq_true, if_false]
 omega
theorem wA : (∀ n : Int, -9223372036854775808 ≤ n → n < 9223372036854775808 → IntKind.i64.wrap n = n) ∧ (∀ n : Int, 0 ≤ n → n < 18446744073709551616 → IntKind.u64.wrap n = n) ∧ (∀ n : Int, 0 ≤ n → n < 4294967296 → IntKind.u32.wrap n = n) ∧
  (∀ a b : Int, 0 ≤ a → a.tdiv b = a / b) ∧ (∀ a b : Int, 0 ≤ a → a.tmod b = a % b) := ⟨fun _ => wrap_i64, fun _ => wrap_u64, fun _ => wrap_u32, fun _ _ h => Int.tdiv_eq_ediv_of_nonneg h, fun _ _ h => Int.tmod_eq_emod_of_nonneg h⟩
theorem gw : (∀ {c B : Prop}, c → aH c B = go B) ∧ (∀ n : Int, -9223372036854775808 ≤ n → n < 9223372036854775808 → IntKind.i64.wrap n = n) ∧ (∀ n : Int, 0 ≤ n → n < 18446744073709551616 → IntKind.u64.wrap n = n) ∧ (∀ n : Int, 0 ≤ n → n < 4294967296 → IntKind.u32.wrap n = n) ∧
  (∀ a b : Int, 0 ≤ a → a.tdiv b = a / b) ∧ (∀ a b : Int, 0 ≤ a → a.tmod b = a % b) := ⟨gA, wA⟩
theorem wrap_u8 {n : Int} (h1 : 0 ≤ n) (h2 : n < 256) : IntKind.u8.wrap n = n := by
 simp only [IntKind.wrap, IntKind.bits, IntKind.signed, Bool.false_and, Bool.false_eq_true, if_false]
 omega
theorem iO {n : Int} : IntKind.u64.wrap n = n % 18446744073709551616 := by
 simp only [IntKind.wrap, IntKind.bits, IntKind.signed, Bool.false_and, Bool.false_eq_true, if_false]
 rfl
theorem wrap_u32' {n : Int} : IntKind.u32.wrap n = n % 4294967296 := by
 simp only [IntKind.wrap, IntKind.bits, IntKind.signed, Bool.false_and, Bool.false_eq_true, if_false]
 rfl
section
variable {E : Env} {n : Nat} {tl : Nat → Nat} {Q : PX → PS → Prop} {σ : PS}
theorem W.b8 {id : Nat} {ops : List Oper} (h : ∀ K : PS → Prop, (∀ σ, Q .normal σ → K σ) → go (aL E ops ops K σ)) : W E n tl (.region id ops.toArray false) Q σ := W.HP h
theorem W.M3 {id : Nat} {ops : List Oper} (h : ∀ K : PS → Prop, (∀ σ, Q .normal σ → K σ) → go (fO E (tl id) ops K σ)) : W E n tl (.region id ops.toArray true) Q σ := W.W8 h
theorem W.dB {id : Nat} {ops : List Oper} {y : Code} (h : ∀ K : PS → Prop, (∀ σ, W E n tl y Q σ → K σ) → go (aL E ops ops K σ)) : W E n tl (.seq (.region id ops.toArray false) y) Q σ := W.MD h
theorem W.ac4 {id : Nat} {ops : List Oper} {y : Code} (h : ∀ K : PS → Prop, (∀ σ, W E n tl y Q σ → K σ) → go (fO E (tl id) ops K σ)) : W E n tl (.seq (.region id ops.toArray true) y) Q σ := W.W9 h
end
section
variable {E : Env} {n : Nat} {tl : Nat → Nat} {Q : PX → PS → Prop} {σ : PS}
theorem W.a9 {c : Code} (I : Nat → PS → Prop) (k : Nat) (h0 : ∃ σ0, Gh n σ σ0 ∧ I k σ0) (h1 : ∀ k σ, I k σ → W E n tl c (BL (fun σ' => ∃ m σ'', Gh n σ' σ'' ∧ m < k ∧ I m σ'') Q) σ) : W E n tl (.loop c) Q σ := by
 obtain ⟨σ0, hg, h0⟩ := h0
 refine W.ghost hg ?_
 refine W.loop (fun k σ => ∃ σ', Gh n σ σ' ∧ I k σ') k ⟨σ0, fun _ _ _ _ _ h => h, h0⟩ ?_
 rintro k σ ⟨σ', hg, hI⟩
 refine W.ghost hg (W.mono (h1 k σ' hI) fun x τ hx => ?_)
 cases x with
 | normal => obtain ⟨m, σ'', h2, h3, h4⟩ := hx; exact ⟨m, h3, σ'', h2, h4⟩
 | exit id => exact hx
 | ret => exact hx
theorem Gh.refl : Gh n σ σ := fun _ _ _ _ _ h => h
theorem W.YM {c : Operand} {t e : Code} (b : Prop) [Decidable b] (hc : aR σ.f c = .bool (decide b)) (h1 : b → W E n tl t Q σ) (h2 : ¬ b → W E n tl e Q σ) : W E n tl (.cond c t e) Q σ := W.cond ⟨_, hc, fun h => h1 (of_decide_eq_true h), fun h => h2 (of_decide_eq_false h)⟩
theorem W.ghf {f : Nat → PV} {rows : Rows} {clk : Nat} {c : Code} (l : List (Nat × PV)) (hl : ∀ p ∈ l, f p.1 = p.2) (h : W E n tl c Q ⟨fa l, rows, clk⟩) : W E n tl c Q ⟨f, rows, clk⟩ := by
 have := aC (f := f) (rows := rows) (clk := clk) n (l.map (·.1))
 have e : ((l.map (·.1)).map fun i => (i, f i)) = l := by
  rw [List.map_map]
  conv => rhs; rw [← List.map_id l]
  exact List.map_congr_left fun p hp => by simp [hl p hp]
 rw [e] at this
 exact W.ghost this h
theorem Gh.fr {f : Nat → PV} {rows : Rows} {clk : Nat} (l : List (Nat × PV)) (hl : ∀ p ∈ l, f p.1 = p.2) : Gh n ⟨f, rows, clk⟩ ⟨fa l, rows, clk⟩ := by
 have := aC (f := f) (rows := rows) (clk := clk) n (l.map (·.1))
 have e : ((l.map (·.1)).map fun i => (i, f i)) = l := by
  rw [List.map_map]
  conv => rhs; rw [← List.map_id l]
  exact List.map_congr_left fun p hp => by simp [hl p hp]
 rw [e] at this
 exact this
end
theorem aB {E : Env} {CQ : FuncId} {fn : Func} {code : Code} (tl : Nat → Nat) {args : List PV} {r : PV} (l : List (Nat × PV)) (h1 : E.P.funcs[CQ]? = some fn) (h2 : fn.body = some code) (h3 : (fn.name == "runtime.NumGoroutine") = false)
  (fL : eA E fn.ntmps tl code = true) (fN : args.length ≤ fn.ntmps) (hl : ∀ p ∈ l, args.getD p.1 .undef = p.2) (h : W E fn.ntmps tl code (acH E fn.results.toList r) ⟨fa l, fun _ => none, 0⟩) : aI E.P CQ args r :=
 XA tl h1 h2 h3 fL fN (W.ghf l (by simpa using hl) h)
end Pm
namespace Pm
@[simp] theorem aqQ {a : Int} : Int.fdiv a 4294967296 = a / 4294967296 := Int.fdiv_eq_ediv_of_nonneg a (by decide)
@[simp] theorem aqR {a : Int} : Int.fdiv a 9223372036854775808 = a / 9223372036854775808 := Int.fdiv_eq_ediv_of_nonneg a (by decide)
attribute [simp] Go.IntKind.bits
end Pm
namespace Pm
open Go Go.RowKit
section
variable {E : Env} {n : Nat} {tl : Nat → Nat} {Q : PX → PS → Prop} {σ : PS}
theorem W.fX {x y : Code} (J : PS → Prop) (h : W E n tl x (BL (fun σ => ∃ σ', Gh n σ σ' ∧ J σ') Q) σ) (hy : ∀ σ, J σ → W E n tl y Q σ) : W E n tl (.seq x y) Q σ :=
 W.seq (W.mono h fun x σ hx => by
  cases x with
  | normal => obtain ⟨σ', hg, hJ⟩ := hx; exact W.ghost hg (hy σ' hJ)
  | exit id => exact hx
  | ret => exact hx)
def M4 (J : PS → Prop) (Q : PX → PS → Prop) : PX → PS → Prop
 | .normal, σ => J σ
 | .exit id, σ => Q (.exit id) σ
 | .ret, σ => Q .ret σ
theorem W.eM {id : Nat} {x y : Code} (J : PS → Prop) (h : W E n tl x (BM id (M4 (fun σ => ∃ σ', Gh n σ σ' ∧ J σ') Q)) σ) (hy : ∀ σ, J σ → W E n tl y Q σ) : W E n tl (.seq (.block id x) y) Q σ :=
 W.seq (W.block (W.mono h fun x σ hx => by
  cases x with
  | normal => obtain ⟨σ', hg, hJ⟩ := hx; exact W.ghost hg (hy σ' hJ)
  | exit j =>
   simp only [BM] at hx ⊢
   split
   ·rename_i hj; rw [if_pos hj] at hx; obtain ⟨σ', hg, hJ⟩ := hx; exact W.ghost hg (hy σ' hJ)
   ·rename_i hj; rw [if_neg hj] at hx; exact hx
  | ret => exact hx))
theorem W.gY {id : Nat} {ops : List Oper} {y : Code} (J : PS → Prop) (h : ∀ K : PS → Prop, (∀ σ σ', Gh n σ σ' → J σ' → K σ) → go (aL E ops ops K σ)) (hy : ∀ σ, J σ → W E n tl y Q σ) : W E n tl (.seq (.region id ops.toArray false) y) Q σ :=
 W.dB fun K hK => h K fun σ _ hg hJ => hK σ (W.ghost hg (hy _ hJ))
@[simp] theorem afX {J : PS → Prop} : M4 J Q .normal σ = J σ := rfl
@[simp] theorem anR {J : PS → Prop} : M4 J Q .ret σ = Q .ret σ := rfl
@[simp] theorem alI {J : PS → Prop} {id : Nat} : M4 J Q (.exit id) σ = Q (.exit id) σ := rfl
@[simp] theorem afY {J : PS → Prop} : BL J Q .normal σ = J σ := rfl
@[simp] theorem anS {J : PS → Prop} : BL J Q .ret σ = Q .ret σ := rfl
@[simp] theorem alJ {J : PS → Prop} {id : Nat} : BL J Q (.exit id) σ = Q (.exit id) σ := rfl
@[simp] theorem afZ {id : Nat} : BM id Q .normal σ = Q .normal σ := rfl
@[simp] theorem anT {id : Nat} : BM id Q .ret σ = Q .ret σ := rfl
@[simp] theorem alK {id j : Nat} : BM id Q (.exit j) σ = if j = id then Q .normal σ else Q (.exit j) σ := rfl
theorem pX : (∀ (Q : PX → PS → Prop) (σ : PS) (id j : Nat), BM id Q (.exit j) σ = if j = id then Q .normal σ else Q (.exit j) σ) ∧ (∀ (Q : PX → PS → Prop) (σ : PS) (id : Nat), BM id Q .normal σ = Q .normal σ) ∧ (∀ (Q : PX → PS → Prop) (σ : PS) (id : Nat), BM id Q .ret σ = Q .ret σ) ∧
  (∀ (J : PS → Prop) (Q : PX → PS → Prop) (σ : PS) (id : Nat), BL J Q (.exit id) σ = Q (.exit id) σ) ∧ (∀ (J : PS → Prop) (Q : PX → PS → Prop) (σ : PS), BL J Q .normal σ = J σ) ∧ (∀ (J : PS → Prop) (Q : PX → PS → Prop) (σ : PS), BL J Q .ret σ = Q .ret σ) ∧
  (∀ (J : PS → Prop) (Q : PX → PS → Prop) (σ : PS) (id : Nat), M4 J Q (.exit id) σ = Q (.exit id) σ) ∧ (∀ (J : PS → Prop) (Q : PX → PS → Prop) (σ : PS), M4 J Q .normal σ = J σ) ∧ (∀ (J : PS → Prop) (Q : PX → PS → Prop) (σ : PS), M4 J Q .ret σ = Q .ret σ) :=
 ⟨fun _ _ _ _ => rfl, fun _ _ _ => rfl, fun _ _ _ => rfl, fun _ _ _ _ => rfl, fun _ _ _ => rfl, fun _ _ _ => rfl, fun _ _ _ _ => rfl, fun _ _ _ => rfl, fun _ _ _ => rfl⟩
end
end Pm
namespace Pm
open Go
theorem anU {P : Program} {g : FuncId} {fI : List PV} {rows : Rows} {clk : Nat} {K : PV → Rows → Nat → Prop} {R : PV → Rows → Nat → Prop} (h : SP P g fI rows clk R) (hK : ∀ r rows' jT, R r rows' jT → go (K r rows' jT)) : vV P g fI rows clk K := ⟨R, h, hK⟩
theorem aA {P : Program} {g : FuncId} {args : List PV} {K : PV → Prop} {v : PV} (h : aI P g args v) (hK : go (K v)) : s8 P g args K := ⟨v, h, hK⟩
theorem W.YN {E : Env} {n : Nat} {tl : Nat → Nat} {c : Code} {Q : PX → PS → Prop} {f : Nat → PV} {rows : Rows} {clk : Nat} (l : List Nat) (h : ∀ K : PS → Prop, (∀ σ, W E n tl c Q σ → K σ) → K ⟨fa (l.map fun i => (i, f i)), rows, clk⟩) : W E n tl c Q ⟨f, rows, clk⟩ := W.live l (h _ fun _ h => h)
theorem W.lv {E : Env} {n : Nat} {tl : Nat → Nat} {c : Code} {Q : PX → PS → Prop} {f : Nat → PV} {rows : Rows} {clk : Nat} {K0 : PS → Prop} (l : List Nat) (hK : ∀ σ, W E n tl c Q σ → K0 σ) (h : ∀ K : PS → Prop, (∀ σ, W E n tl c Q σ → K σ) → K ⟨fa (l.map fun i => (i, f i)), rows, clk⟩) : K0 ⟨f, rows, clk⟩ := hK _ (W.YN l h)
inductive Bx (P : PS → Prop) : Type
  | mk
def aW {P : PS → Prop} (_ : Bx P) (σ : PS) : Prop := P σ
theorem W.lw {E : Env} {n : Nat} {tl : Nat → Nat} {c : Code} {Q : PX → PS → Prop} {f : Nat → PV} {rows : Rows} {clk : Nat} {K0 : PS → Prop} (l : List Nat) (hK : ∀ σ, W E n tl c Q σ → K0 σ) (h : aW (Bx.mk (P := W E n tl c Q)) ⟨fa (l.map fun i => (i, f i)), rows, clk⟩) : K0 ⟨f, rows, clk⟩ := hK _ (W.YN l fun _ q => q _ h)
theorem W.lx {E : Env} {n : Nat} {tl : Nat → Nat} {c : Code} {Q : PX → PS → Prop} {f : Nat → PV} {rows : Rows} {clk : Nat} (l : List Nat) (h : aW (Bx.mk (P := W E n tl c Q)) ⟨fa (l.map fun i => (i, f i)), rows, clk⟩) : aW (Bx.mk (P := W E n tl c Q)) ⟨f, rows, clk⟩ := W.YN l fun _ q => q _ h
theorem W.sr {E : Env} {n : Nat} {tl : Nat → Nat} {Q : PX → PS → Prop} {σ : PS} {id : Nat} {ops : List Oper} {y : Code} (h : go (aL E ops ops (aW (Bx.mk (P := W E n tl y Q))) σ)) : W E n tl (.seq (.region id ops.toArray false) y) Q σ := by
  refine W.seq ?_
  intro fL w0 S0 G a w Q' hR hQ
  simp only [eA, pF, Bool.and_eq_true] at fL
  refine wp_region_list (fV (fun σ' a' w' hk j9 => hQ .normal σ' a' w' hk j9) _ σ a w (fun o ho t ht => ?_) h hR)
  have := Array.all_eq_true_iff_forall_mem.1 fL.1 o (by simpa using ho)
  simpa [ht] using this
theorem W.sd {E : Env} {n : Nat} {tl : Nat → Nat} {Q : PX → PS → Prop} {σ : PS} {id : Nat} {ops : List Oper} {y : Code} (h : go (fO E (tl id) ops (aW (Bx.mk (P := W E n tl y Q))) σ)) : W E n tl (.seq (.region id ops.toArray true) y) Q σ := by
  refine W.seq ?_
  intro fL w0 S0 G a w Q' hR hQ
  exact rN (by simpa [eA] using fL) h hR fun σ' a' w' hk j9 => hQ .normal σ' a' w' hk j9
end Pm
namespace Pm
open Go Go.RowKit
def Wk (p q : PV) : Prop := q = p ∨ (p = .nil ∧ q = .sl [])
theorem Wk.rep {c : Cx} {p q : PV} {v : Value} (h : Wk p q) (hr : aP c p v) : aP c q v := by
 rcases h with rfl | ⟨rfl, rfl⟩
 ·exact hr
 ·simp only [aP, cJ] at hr ⊢
  exact ⟨none, 0, by simpa using hr, by simp, by simp, .inl trivial⟩
theorem a7.flat {α β : Type} {R : α → β → Prop} : ∀ {l : List (List α)} {m : List (List β)}, a7 (a7 R) l m → a7 R l.flatten m.flatten
 | [], [], _ => trivial
 | a :: l, b :: m, h => by
  obtain ⟨h1, h2⟩ := h
  have ih := a7.flat h2
  clear h2
  induction a generalizing b with
  | nil => cases b with
   | nil => exact ih
   | cons => exact h1.elim
  | cons x a iha => cases b with
   | nil => exact h1.elim
   | cons y b => exact ⟨h1.1, iha b h1.2⟩
theorem aiE {n id ver e m clk : Nat} {f : Nat → PV} {rows : Rows} {els EI : List (List PV)} (hr : rows id = some ⟨ver, e, m, els⟩) (hw : a7 (a7 fun q p => Wk p q) EI els) : Gh n ⟨f, rows, clk⟩ ⟨f, dE rows id (some ⟨ver, e, m, EI⟩), clk⟩ := by
 rintro w0 S0 G a w ⟨⟨c, rfl, tC, fA, hI, hf, hG⟩, h7, h8⟩
 have jP : c.rows id = some ⟨ver, e, m, els⟩ := by rw [tC]; exact hr
 obtain ⟨⟨xs, g1, g2, g3⟩, g4, g5, g6⟩ := hI.row id _ jP
 have hlen : EI.length = els.length := hw.length
 obtain ⟨uO, hA⟩ := hI.dE (w' := c.w) (r' := ⟨ver, e, m, EI⟩) (xs := xs) jP (World.grownBy.refl _ _) (by simp only [hlen]; exact g1)
  (by
   have h1 := a7.flat hw
   have : ∀ {l : List PV} {k : List PV} {vs : List Value}, a7 (fun q p => Wk p q) l k → a7 (aP c) k vs → a7 (aP c) l vs := by
    intro l
    induction l with
    | nil => intro k vs h h'; cases k with
     | nil => exact h'
     | cons => exact h.elim
    | cons x l ih => intro k vs h h'; cases k with
     | nil => exact h.elim
     | cons y k => cases vs with
      | nil => exact h'.elim
      | cons v vs => exact ⟨h.1.rep h'.1, ih h.2 h'.2⟩
   exact this h1 g2) g3 (fun el kX => by
   obtain ⟨k, hk⟩ := List.getElem?_of_mem kX
   obtain ⟨b, hb, h1⟩ := hw.get hk
   rw [h1.length]
   exact g4 b (List.mem_of_getElem? hb)) rfl rfl hlen
 refine ⟨⟨{ c with rows := dE c.rows id (some ⟨ver, e, m, EI⟩) }, rfl, by simp [tC], fA, uO, fun s => aK.rU hA _ _ (hf s), fun p hp => aK.rU hA _ _ (hG p hp)⟩, h7, h8⟩
theorem aiF {n s id e m clk : Nat} {f : Nat → PV} {rows : Rows} (hs : f s = .nil) (hm : 0 < m) : Gh n ⟨f, rows, clk⟩ ⟨put f (some s) (.own id clk 0 0), dE rows id (some ⟨clk, e, m, []⟩), clk + 1⟩ := by
 rintro w0 S0 G a w ⟨⟨c, rfl, tC, fA, hI, hf, hG⟩, h7, h8⟩
 obtain ⟨uO, hA⟩ := hI.set (w' := c.w) (ob := none) (id := id) (r' := ⟨clk, e, m, []⟩) (v' := .slice none 0 0) (xs := []) (World.grownBy.refl _ _) (by simp) ⟨by simp, .inl ⟨rfl, rfl⟩⟩ (by simp [a7]) (by simp) (by simp) hm (by simp [Value.ownBlock]) (fun hu => Nat.lt_irrefl _ (fA _ hu))
 refine ⟨⟨{ c with β := dE c.β id (.slice none 0 0), rows := dE c.rows id (some ⟨clk, e, m, []⟩), used := fun v => v = clk ∨ c.used v }, rfl, by simp [tC], fun v hv => by
  show v < clk + 1
  rcases hv with rfl | hv
  ·omega
  ·have : v < clk := fA v hv
   omega, uO, fun t => ?_, fun p hp => aK.rU hA _ _ (hG p hp)⟩, h7, h8⟩
 simp only [put]
 split
 ·rename_i ht
  subst ht
  have h1 := hf t
  simp only at h1
  rw [hs] at h1
  simp only [aK, aP, cJ] at h1
  simp only [aK, aP]
  refine ⟨.inl (by first | rfl | trivial), fun r hr hv => ?_⟩
  simp only [fT, Option.some.injEq] at hr
  subst hr
  exact ⟨by simp, .inl ⟨trivial, none, 0, 0, by simp [dE], h1⟩⟩
 ·exact aK.rU hA _ _ (hf t)
theorem ID {α β : Type} {R : α → β → Prop} {x : α} {y : β} (h : R x y) : ∀ k : Nat, a7 R (List.replicate k x) (List.replicate k y)
 | 0 => trivial
 | k + 1 => ⟨h, ID h k⟩
section
variable {E : Env} {n : Nat} {tl : Nat → Nat} {Q : PX → PS → Prop} {c : Code} {f : Nat → PV} {rows : Rows} {clk : Nat}
theorem W.row {id ver e m : Nat} {els : List (List PV)} (EI : List (List PV)) (hr : rows id = some ⟨ver, e, m, els⟩) (hw : a7 (a7 fun q p => Wk p q) EI els) (h : W E n tl c Q ⟨f, dE rows id (some ⟨ver, e, m, EI⟩), clk⟩) : W E n tl c Q ⟨f, rows, clk⟩ := W.ghost (aiE hr hw) h
theorem W.nil (s id e m : Nat) (hs : f s = .nil) (hm : 0 < m) (h : ∀ K : PS → Prop, (∀ σ, W E n tl c Q σ → K σ) → K ⟨put f (some s) (.own id clk 0 0), dE rows id (some ⟨clk, e, m, []⟩), clk + 1⟩) : W E n tl c Q ⟨f, rows, clk⟩ := W.ghost (aiF hs hm) (h _ fun _ h => h)
end
def fzP (o : Option Row) (ver i j : Nat) : PV :=
 match o with
 | some r => if r.ver = ver then .rd ((r.els.getD i []).drop j) else .undef
 | none => .undef
@[simp] theorem asT {rows : Rows} {id ver i j : Nat} : fz rows (.ptr id ver i j) = fzP (rows id) ver i j := rfl
@[simp] theorem asU {rows : Rows} {id ver i j : Nat} : pz rows (.ptr id ver i j) = fzP (rows id) ver i j := rfl
@[simp] theorem aqS {ver e n : Nat} {el : List PV} : fzP (some ⟨ver, e, n, [el]⟩) ver 0 0 = .rd el := by simp [fzP]
@[simp] theorem anV {id ver i j : Nat} : dA (.ptr id ver i j) = [id] := rfl
@[simp] theorem af0 {ver e n : Nat} {el : List PV} : cQ (some ⟨ver, e, n, [el]⟩) = ∀ p ∈ el, bY p = true := by simp [cQ]
end Pm
namespace Pm
open Go
theorem dQ {E : Env} {m : Nat} {ops : List Oper} {K : PS → Prop} {f : Nat → PV} {rows : Rows} {clk : Nat} : go (fO E (m + 1) ops K ⟨f, rows, clk⟩) = go (aN E ops clk 0 (ops.take (ops.length - (m + 1))) (aL E ops (ops.drop (ops.length - (m + 1))) K) ⟨f, rows, fun _ _ => False, fun _ _ => False⟩) := by
 simp [fO]
end Pm
namespace Pm
open Go Go.RowKit
def G0 (rows : Rows) (id : Nat) : PV → PV
 | .own i ver off len => if i = id then fz rows (.own i ver off len) else .own i ver off len
 | .ptr i ver a j => if i = id then fz rows (.ptr i ver a j) else .ptr i ver a j
 | p => p
def E6 (rows : Rows) (id : Nat) : PV → PV
 | .ag l => .ag (l.map (G0 rows id))
 | p => G0 rows id p
theorem E7 {w0 : World} {S0 : c9} {c : Cx} (hI : Inv w0 S0 c) {id : Nat} (hp : ∀ r, c.rows id = some r → ∀ e ∈ r.els, ∀ p ∈ e, bY p = true) {p : PV} {v : Value} (h : aP c p v) : aP (BC c [id]) (G0 c.rows id p) v := by
 have uL : ∀ i ∈ [id], ∀ r, c.rows i = some r → ∀ e ∈ r.els, ∀ p ∈ e, bY p = true := by intro i hi; simp at hi; subst hi; exact hp
 have key : ∀ q : PV, aP c q v → (∀ i ∈ aZ q, i ∈ [id]) → (fz c.rows q = .undef ∨ bY (fz c.rows q) = true) → aP (BC c [id]) (fz c.rows q) v := by
  intro q hq hi ho
  rcases ho with ho | ho
  ·rw [ho]; simp [aP]
  ·exact aP.i0 (EG hI uL hq hi ho)
 cases p with
 | own i ver off len =>
  simp only [G0]
  split
  ·rename_i hi
   subst hi
   refine key _ h (by simp [aZ]) ?_
   simp only [fz]
   cases c.rows i with
   | none => exact .inl rfl
   | some r =>
    simp only
    split
    ·exact .inr rfl
    ·exact .inl rfl
  ·exact aP.rU (kQ c [id]) _ _ h
 | ptr i ver a j =>
  simp only [G0]
  split
  ·rename_i hi
   subst hi
   refine key _ h (by simp [aZ]) ?_
   simp only [fz]
   cases c.rows i with
   | none => exact .inl rfl
   | some r =>
    simp only
    split
    ·exact .inr rfl
    ·exact .inl rfl
  ·exact aP.rU (kQ c [id]) _ _ h
 | _ => exact aP.rU (kQ c [id]) _ _ h
theorem P9 {w0 : World} {S0 : c9} {c : Cx} (hI : Inv w0 S0 c) {id : Nat} (hp : ∀ r, c.rows id = some r → ∀ e ∈ r.els, ∀ p ∈ e, bY p = true) {p : PV} {v : Value} (h : aK c p v) : aK (BC c [id]) (E6 c.rows id p) v := by
 cases p with
 | ag l =>
  obtain ⟨vs, h1, h2⟩ := h
  refine ⟨vs, h1, a7.cV (by simp [h2.length]) fun k a b ha hb => ?_⟩
  simp at ha
  obtain ⟨q, hq, rfl⟩ := ha
  obtain ⟨b', yA, hr⟩ := h2.get hq
  rw [hb] at yA; cases yA
  exact E7 hI hp hr
 | _ =>
  simp only [aK] at h
  have := E7 hI hp h
  simp only [E6]
  exact (by
   first
    | (simp only [G0, aK] at this ⊢; exact this)
    | (simp only [G0] at this ⊢
       split
       · rename_i hi; rw [if_pos hi] at this; simp only [fz] at this ⊢; revert this; split <;> (try split) <;> exact fun h => h
       · rename_i hi; rw [if_neg hi] at this; exact this))
theorem C0 {rows : Rows} {id : Nat} : E6 rows id .undef = .undef := rfl
theorem YO {l : List (Nat × PV)} {g : PV → PV} (hg : g .undef = .undef) : (fun s => g (fa l s)) = fa (l.map fun p => (p.1, g p.2)) := by
 funext s
 induction l with
 | nil => exact hg
 | cons p l ih =>
  obtain ⟨i, v⟩ := p
  simp only [fa, List.map_cons]
  split
  ·rfl
  ·exact ih
theorem TT {n clk : Nat} {l : List (Nat × PV)} {rows : Rows} (id : Nat) (hp : cQ (rows id)) : Gh n ⟨fa l, rows, clk⟩ ⟨fa (l.map fun p => (p.1, E6 rows id p.2)), CL rows [id], clk⟩ := by
 rintro w0 S0 G a w ⟨⟨c, rfl, tC, fA, hI, hf, hG⟩, h7, h8⟩
 have YP : c.rows = rows := tC
 subst YP
 refine ⟨⟨BC c [id], rfl, rfl, fA, hI.freeze [id], fun s => ?_, fun p hp => aK.rU (kQ c [id]) _ _ (hG p hp)⟩, h7, h8⟩
 rw [← YO (g := E6 c.rows id) C0]
 exact P9 hI hp (hf s)
theorem W.freeze {E : Env} {n : Nat} {tl : Nat → Nat} {Q : PX → PS → Prop} {c : Code} {l : List (Nat × PV)} {rows : Rows} {clk : Nat} (id : Nat) (hp : cQ (rows id)) (h : ∀ K : PS → Prop, (∀ σ, W E n tl c Q σ → K σ) → K ⟨fa (l.map fun p => (p.1, E6 rows id p.2)), CL rows [id], clk⟩) : W E n tl c Q ⟨fa l, rows, clk⟩ := W.ghost (TT id hp) (h _ fun _ h => h)
@[simp] theorem aqT {rows : Rows} {id i ver off len : Nat} : E6 rows id (.own i ver off len) = if i = id then fzR (rows i) ver off len else .own i ver off len := rfl
@[simp] theorem aqU {rows : Rows} {id i ver a j : Nat} : E6 rows id (.ptr i ver a j) = if i = id then fzP (rows i) ver a j else .ptr i ver a j := rfl
@[simp] theorem aqV {α : Type} {g : α → List PV} {rows : Rows} {id : Nat} {l : List α} : E6 rows id (aJ g l) = aJ g l := rfl
@[simp] theorem aqW {rows : Rows} {id : Nat} {k : IntKind} {n : Int} : E6 rows id (.int k n) = .int k n := rfl
@[simp] theorem anW {rows : Rows} {id : Nat} {b : Bool} : E6 rows id (.bool b) = .bool b := rfl
@[simp] theorem aqX {rows : Rows} {id : Nat} : E6 rows id .nil = .nil := rfl
@[simp] theorem asV {rows : Rows} {id : Nat} {l : List (List PV)} : E6 rows id (.sl l) = .sl l := rfl
@[simp] theorem aqY {rows : Rows} {id : Nat} {l : List (List PV)} : E6 rows id (.iZ l) = .iZ l := rfl
@[simp] theorem asW {rows : Rows} {id : Nat} {l : List PV} : E6 rows id (.ag l) = .ag (l.map (G0 rows id)) := rfl
@[simp] theorem aqZ {rows : Rows} {id : Nat} {k : IntKind} {n : Int} : G0 rows id (.int k n) = .int k n := rfl
@[simp] theorem anX {rows : Rows} {id : Nat} {b : Bool} : G0 rows id (.bool b) = .bool b := rfl
@[simp] theorem aq0 {rows : Rows} {id : Nat} : G0 rows id .nil = .nil := rfl
@[simp] theorem aq1 {α : Type} {g : α → List PV} {rows : Rows} {id : Nat} {l : List α} : G0 rows id (aJ g l) = aJ g l := rfl
theorem ac6 {n s clk : Nat} {f : Nat → PV} {rows : Rows} (q : PV) (hs : f s = .nil) (hq : q = .sl []) : Gh n ⟨f, rows, clk⟩ ⟨put f (some s) q, rows, clk⟩ := by
 rintro w0 S0 G a w ⟨⟨c, rfl, tC, fA, hI, hf, hG⟩, h7, h8⟩
 refine ⟨⟨c, rfl, tC, fA, hI, fun t => ?_, hG⟩, h7, h8⟩
 simp only [put]
 split
 ·rename_i ht
  subst ht
  have h1 := hf t
  simp only at h1
  rw [hs] at h1
  subst hq
  simp only [aK] at h1 ⊢
  exact Wk.rep (.inr ⟨rfl, rfl⟩) h1
 ·exact hf t
theorem W.TU {E : Env} {n : Nat} {tl : Nat → Nat} {Q : PX → PS → Prop} {c : Code} {f : Nat → PV} {rows : Rows} {clk : Nat} (s : Nat) (q : PV) (hs : f s = .nil) (hq : q = .sl []) (h : ∀ K : PS → Prop, (∀ σ, W E n tl c Q σ → K σ) → K ⟨put f (some s) q, rows, clk⟩) : W E n tl c Q ⟨f, rows, clk⟩ := W.ghost (ac6 q hs hq) (h _ fun _ h => h)
theorem ac7 {c : Cx} {l : List (List PV)} {v : Value} (hr : aP c (.iZ l) v) : aP c (.sl l) v := by
 simp only [aP, cJ] at hr ⊢
 obtain ⟨a, h1, h2, h3⟩ := hr
 exact ⟨a, l.length, h1, Nat.le_refl _, h2, h3⟩
theorem ac8 {n s clk : Nat} {f : Nat → PV} {rows : Rows} (l : List (List PV)) (q : PV) (hs : f s = .iZ l) (hq : q = .sl l) : Gh n ⟨f, rows, clk⟩ ⟨put f (some s) q, rows, clk⟩ := by
 rintro w0 S0 G a w ⟨⟨c, rfl, tC, fA, hI, hf, hG⟩, h7, h8⟩
 refine ⟨⟨c, rfl, tC, fA, hI, fun t => ?_, hG⟩, h7, h8⟩
 simp only [put]
 split
 ·rename_i ht
  subst ht
  have h1 := hf t
  simp only at h1
  rw [hs] at h1
  subst hq
  simp only [aK] at h1 ⊢
  exact ac7 h1
 ·exact hf t
theorem W.asX {E : Env} {n : Nat} {tl : Nat → Nat} {Q : PX → PS → Prop} {c : Code} {f : Nat → PV} {rows : Rows} {clk : Nat} (s : Nat) (l : List (List PV)) (q : PV) (hs : f s = .iZ l) (hq : q = .sl l) (h : ∀ K : PS → Prop, (∀ σ, W E n tl c Q σ → K σ) → K ⟨put f (some s) q, rows, clk⟩) : W E n tl c Q ⟨f, rows, clk⟩ := W.ghost (ac8 l q hs hq) (h _ fun _ h => h)
def y8 (rows : Rows) (id : Nat) : Option Row → Option Row
 | some r => some { r with els := r.els.map fun e => e.map (G0 rows id) }
 | none => none
def BV (rows : Rows) (id : Nat) : Rows := fun j => if j = id then none else y8 rows id (rows j)
@[simp] theorem aq2 {rows : Rows} {id j : Nat} : BV rows id j = if j = id then none else y8 rows id (rows j) := rfl
@[simp] theorem af1 {rows : Rows} {id v e n : Nat} {els : List (List PV)} : y8 rows id (some ⟨v, e, n, els⟩) = some ⟨v, e, n, els.map fun e => e.map (G0 rows id)⟩ := rfl
@[simp] theorem af2 {rows : Rows} {id : Nat} : y8 rows id none = none := rfl
@[simp] theorem aq3 {rows : Rows} {id i ver off len : Nat} : G0 rows id (.own i ver off len) = if i = id then fzR (rows i) ver off len else .own i ver off len := rfl
@[simp] theorem aq4 {rows : Rows} {id i ver a j : Nat} : G0 rows id (.ptr i ver a j) = if i = id then fzP (rows i) ver a j else .ptr i ver a j := rfl
theorem M5 {n clk : Nat} {l : List (Nat × PV)} {rows : Rows} (id : Nat) (hp : cQ (rows id)) : Gh n ⟨fa l, rows, clk⟩ ⟨fa (l.map fun p => (p.1, E6 rows id p.2)), BV rows id, clk⟩ := by
 rintro w0 S0 G a w ⟨⟨c, rfl, tC, fA, hI, hf, hG⟩, h7, h8⟩
 have YP : c.rows = rows := tC
 subst YP
 have HF := hI.freeze [id]
 have live : ∀ {j : Nat} {r' : Row}, BV c.rows id j = some r' → j ≠ id ∧ ∃ r, c.rows j = some r ∧ r' = { r with els := r.els.map fun e => e.map (G0 c.rows id) } := by
  intro j r' h
  simp only [BV] at h
  split at h
  ·cases h
  ·rename_i hj
   cases hr : c.rows j with
   | none => rw [hr] at h; cases h
   | some r => rw [hr] at h; simp only [y8, Option.some.injEq] at h; exact ⟨hj, r, rfl, h.symm⟩
 have hA : rT (BC c [id]) { BC c [id] with rows := BV c.rows id } := by
  refine ⟨fun _ _ h => h, fun _ _ _ => rfl, fun _ h => h, fun j r' h => ?_⟩
  obtain ⟨hj, r, hr, rfl⟩ := live h
  exact .inr ⟨r, by simp [BC, CL, hj, hr], rfl, rfl, by simp, rfl⟩
 have hI2 : Inv w0 S0 { BC c [id] with rows := BV c.rows id } := by
  refine ⟨HF.below, HF.ext, HF.new, HF.lt0, fun j r' h => ?_, fun j r' h => ?_, fun i j r s g hr hs => ?_⟩
  ·obtain ⟨hj, r, hr, rfl⟩ := live h
   exact hI.clock j r hr
  ·obtain ⟨hj, r, hr, rfl⟩ := live h
   obtain ⟨⟨xs, g1, g2, g3⟩, g4, g5, g6⟩ := hI.row j r hr
   obtain ⟨_, _, f5, _⟩ := HF.row j r (by simp [BC, CL, hj, hr])
   refine ⟨⟨xs, by rw [List.length_map]; exact g1, ?_, g3⟩, fun e he => ?_, f5, g6⟩
   ·show a7 _ (List.flatten (r.els.map fun e => e.map (G0 c.rows id))) xs
    rw [← List.map_flatten]
    refine a7.cV (by rw [List.length_map]; exact g2.length) fun k p u uL hu => ?_
    rw [List.getElem?_map] at uL
    obtain ⟨q, hq, rfl⟩ := Option.map_eq_some_iff.1 uL
    obtain ⟨u', SM, jP⟩ := g2.get hq
    rw [hu] at SM; cases SM
    exact aP.rU hA _ _ (E7 hI hp jP)
   ·simp only [List.mem_map] at he
    obtain ⟨e', sX, rfl⟩ := he
    simpa using g4 e' sX
  ·obtain ⟨hi, r1, BW, rfl⟩ := live hr
   obtain ⟨hj, r2, cI, rfl⟩ := live hs
   exact hI.apart i j r1 r2 g BW cI
 refine ⟨⟨{ BC c [id] with rows := BV c.rows id }, rfl, rfl, fA, hI2, fun s => ?_, fun p hp => aK.rU hA _ _ (aK.rU (kQ c [id]) _ _ (hG p hp))⟩, h7, h8⟩
 show aK _ (fa (l.map fun p => (p.1, E6 c.rows id p.2)) s) _
 rw [← YO (g := E6 c.rows id) C0]
 exact aK.rU hA _ _ (P9 hI hp (hf s))
theorem W.E8 {E : Env} {n : Nat} {tl : Nat → Nat} {Q : PX → PS → Prop} {c : Code} {l : List (Nat × PV)} {rows : Rows} {clk : Nat} (id : Nat) (hp : cQ (rows id)) (h : ∀ K : PS → Prop, (∀ σ, W E n tl c Q σ → K σ) → K ⟨fa (l.map fun p => (p.1, E6 rows id p.2)), BV rows id, clk⟩) : W E n tl c Q ⟨fa l, rows, clk⟩ := W.ghost (M5 id hp) (h _ fun _ h => h)
end Pm
