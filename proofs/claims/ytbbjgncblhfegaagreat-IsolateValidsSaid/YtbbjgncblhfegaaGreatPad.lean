import Derived.Test.YtbbjgncblhfegaaGreatPac
set_option linter.unusedSimpArgs false
set_option linter.unusedVariables false
namespace Pm
open Go Go.RowKit
def emap {α : Type} (g : α → List PV) (l : List α) : List (List PV) := l.map g
def aJ {α : Type} (g : α → List PV) (l : List α) : PV := .sl (emap g l)
def nth {α : Type} [Inhabited α] (l : List α) (i : Nat) : α := l[i]?.getD default
def Enc {α : Type} (g : α → List PV) (n : Nat) : Prop := ∀ x, (g x).length = n
def amn {α : Type} (g : α → List PV) : Prop := ∀ x, (g x).all bY = true
def bK (o : Option Row) (ver : Nat) (K : Row → Prop) : Prop := ∃ r, o = some r ∧ r.ver = ver ∧ K r
@[congr] theorem abD {o o' : Option Row} {ver : Nat} {K : Row → Prop} (h : o = o') : bK o ver K = bK o' ver K := by rw [h]
@[simp] theorem acu {r : Row} {ver : Nat} {K : Row → Prop} : bK (some r) ver K = aH (r.ver = ver) (K r) := by simp [bK, aH]
def CP (els : List (List PV)) (i : Nat) (K : List PV → Prop) : Prop := ∃ el, els[i]? = some el ∧ K el
@[congr] theorem akb {l l' : List (List PV)} {i i' : Nat} {K : List PV → Prop} (h : l = l') (hi : i = i') : CP l i K = CP l' i' K := by rw [h, hi]
@[simp] theorem HU {α : Type} [Inhabited α] {g : α → List PV} {l : List α} {i : Nat} {K : List PV → Prop} : CP (emap g l) i K = aH (i < l.length) (K (g (nth l i))) := by
 simp only [CP, emap, aH, nth]
 apply propext
 constructor
 ·rintro ⟨el, h1, h2⟩
  simp at h1
  obtain ⟨x, h1, rfl⟩ := h1
  have := (List.getElem?_eq_some_iff.1 h1).1
  rw [h1]
  exact ⟨this, h2⟩
 ·rintro ⟨h1, h2⟩
  rw [List.getElem?_eq_getElem h1] at h2
  exact ⟨g l[i], by simp [h1], h2⟩
@[simp] theorem amo {e : List PV} {es : List (List PV)} {K : List PV → Prop} : CP (e :: es) 0 K = go (K e) := by show _ = K e; simp [CP]
@[simp] theorem amp {e : List PV} {es : List (List PV)} {i : Nat} {K : List PV → Prop} : CP (e :: es) (i + 1) K = CP es i K := by simp [CP]
def kB {α : Type} (l : List α) (i : Nat) : Option α := l[i]?
@[simp] theorem akc {α : Type} {x : α} {l : List α} : kB (x :: l) 0 = some x := rfl
@[simp] theorem akd {α : Type} {x : α} {l : List α} {n : Nat} : kB (x :: l) (n + 1) = kB l n := rfl
def eM {α : Type} (o : Option α) (K : α → Prop) : Prop := ∃ v, o = some v ∧ K v
@[congr] theorem ahm {α : Type} {o o' : Option α} {K : α → Prop} (h : o = o') : eM o K = eM o' K := by rw [h]
@[simp] theorem ake {α : Type} {x : α} {K : α → Prop} : eM (some x) K = go (K x) := by show _ = K x; simp [eM]
def vW (ti : TI) (l : List PV) (j : Nat) (K : PV → Prop) : Prop := if ti.agg = true then aH (j + ti.size ≤ l.length) (K (.ag ((l.drop j).take ti.size))) else eM (kB l j) K
@[congr] theorem akf {t t' : TI} {l l' : List PV} {j : Nat} {K : PV → Prop} (h1 : t = t') (h2 : l = l') : vW t l j K = vW t' l' j K := by rw [h1, h2]
@[simp] theorem ap3 {k : IntKind} {l : List PV} {j : Nat} {K : PV → Prop} : vW (.int k) l j K = eM (kB l j) K := by simp [vW, TI.agg]
@[simp] theorem amq {l : List PV} {j : Nat} {K : PV → Prop} : vW .bool l j K = eM (kB l j) K := by simp [vW, TI.agg]
@[simp] theorem ap4 {l : List PV} {j : Nat} {K : PV → Prop} : vW .str l j K = eM (kB l j) K := by simp [vW, TI.agg]
@[simp] theorem akg {e n b : Nat} {z : List PV} {l : List PV} {j : Nat} {K : PV → Prop} : vW (.slice e n b z) l j K = eM (kB l j) K := by simp [vW, TI.agg]
@[simp] theorem ap5 {e m n : Nat} {z : List PV} {l : List PV} {j : Nat} {K : PV → Prop} : vW (.arr e m n z) l j K = aH (j + z.length ≤ l.length) (K (.ag ((l.drop j).take z.length))) := by simp [vW, TI.agg, TI.size, TI.zero]
@[simp] theorem amr {l : List PV} {j : Nat} {K : PV → Prop} : vW .yA l j K = eM (kB l j) K := by simp [vW, TI.agg]
@[simp] theorem ap6 {l : List PV} {j : Nat} {K : PV → Prop} : vW .fnT l j K = eM (kB l j) K := by simp [vW, TI.agg]
@[simp] theorem ahn {fs : List (Nat × Nat × Bool)} {z : List PV} {l : List PV} {j : Nat} {K : PV → Prop} : vW (.struct fs z) l j K = aH (j + z.length ≤ l.length) (K (.ag ((l.drop j).take z.length))) := by simp [vW, TI.agg, TI.size, TI.zero]
def jP (E : Env) (t : TypeId) (rows : Rows) (p : PV) (K : PV → Prop) : Prop :=
 aH ((E.ty t).known = true) (match p with
 | .rd l => vW (E.ty t) l 0 K
 | .ptr id ver i j => bK (rows id) ver fun r => CP r.els i fun el => vW (E.ty t) el j K
 | _ => False)
@[congr] theorem acv {E : Env} {t : TypeId} {rows : Rows} {p p' : PV} {K : PV → Prop} (h : p = p') : jP E t rows p K = jP E t rows p' K := by rw [h]
@[simp] theorem akh {E : Env} {t : TypeId} {rows : Rows} {l : List PV} {K : PV → Prop} : jP E t rows (.rd l) K = aH ((E.ty t).known = true) (vW (E.ty t) l 0 K) := rfl
@[simp] theorem aho {E : Env} {t : TypeId} {rows : Rows} {id ver i j : Nat} {K : PV → Prop} : jP E t rows (.ptr id ver i j) K = aH ((E.ty t).known = true) (bK (rows id) ver fun r => CP r.els i fun el => vW (E.ty t) el j K) := rfl
theorem HV {ti : TI} {l : List PV} {j : Nat} {K : PV → Prop} : aU (fun v => if ti.agg = true then j + ti.size ≤ l.length ∧ v = .ag ((l.drop j).take ti.size) else l[j]? = some v) K = vW ti l j K := by
 simp only [vW, eM]
 split
 ·rw [iJ, iZ]
 ·rfl
theorem rQ {E : Env} {t : TypeId} {rows : Rows} {p : PV} {K : PV → Prop} : aU (fun v => qW E t rows p v) K = jP E t rows p K := by
 simp only [qW, jP]
 rw [iJ]
 congr 1
 cases p with
 | rd l => dsimp only; rw [← HV]; simp [go]
 | ptr id ver i j =>
  simp only [bK, CP, ← HV]
  apply propext; simp only [aU]
  constructor
  ·rintro ⟨v, ⟨r, h1, h2, el, h3, h4⟩, h5⟩; exact ⟨r, h1, h2, el, h3, v, h4, h5⟩
  ·rintro ⟨r, h1, h2, el, h3, v, h4, h5⟩; exact ⟨v, ⟨r, h1, h2, el, h3, h4⟩, h5⟩
 | _ => simp [aU]
def i0 (ti : TI) (i : Nat) (x : PV) (K : PV → Prop) : Prop :=
 match ti with
 | .struct fs _ => eM (kB fs i) fun p => match x with
  | .ag l => if p.2.2 = true then K (.ag ((l.drop p.1).take p.2.1)) else eM (kB l p.1) K
  | _ => False
 | _ => False
@[congr] theorem abE {t t' : TI} {i : Nat} {x x' : PV} {K : PV → Prop} (h : t = t') (h2 : x = x') : i0 t i x K = i0 t' i x' K := by rw [h, h2]
def ER (p : Nat × Nat × Bool) (l : List PV) (K : PV → Prop) : Prop := if p.2.2 = true then K (.ag ((l.drop p.1).take p.2.1)) else eM (kB l p.1) K
@[simp] theorem aki {o n : Nat} {l : List PV} {K : PV → Prop} : ER (o, n, true) l K = go (K (.ag ((l.drop o).take n))) := by show _ = K _; simp [ER]
@[simp] theorem ahp {o n : Nat} {l : List PV} {K : PV → Prop} : ER (o, n, false) l K = eM (kB l o) K := by simp [ER]
@[congr] theorem ahq {p p' : Nat × Nat × Bool} {l l' : List PV} {K : PV → Prop} (h : p = p') (h2 : l = l') : ER p l K = ER p' l' K := by rw [h, h2]
@[simp] theorem ahr {fs : List (Nat × Nat × Bool)} {z : List PV} {i : Nat} {l : List PV} {K : PV → Prop} : i0 (.struct fs z) i (.ag l) K = eM (kB fs i) fun p => ER p l K := rfl
theorem vX {E : Env} {t : TypeId} {i : Nat} {x : PV} {K : PV → Prop} : aU (fun v => rI E t i x v) K = i0 (E.ty t) i x K := by
 simp only [rI, i0]
 cases E.ty t with
 | struct fs z =>
  simp only [eM]
  apply propext; simp only [aU]
  cases x with
  | ag l =>
   simp only
   constructor
   ·rintro ⟨v, ⟨o, n, b, h1, h2⟩, h3⟩
    refine ⟨_, h1, ?_⟩
    simp only
    split at h2
    ·rename_i hb; rw [if_pos hb, ← h2]; exact h3
    ·rename_i hb; rw [if_neg hb]; exact ⟨v, h2, h3⟩
   ·rintro ⟨⟨o, n, b⟩, h1, h2⟩
    simp only at h2
    split at h2
    ·rename_i hb; exact ⟨_, ⟨o, n, b, h1, by rw [if_pos hb]⟩, h2⟩
    ·rename_i hb; obtain ⟨v, h3, h4⟩ := h2; exact ⟨v, ⟨o, n, b, h1, by rw [if_neg hb]; exact h3⟩, h4⟩
  | _ => simp
 | _ => simp [aU]
def c7 (ti : TI) (rows : Rows) (i : Nat) (x : PV) (K : PV → Prop) : Prop :=
 match ti with
 | .struct fs _ => eM (kB fs i) fun p => match x with
  | .rd l => aH (p.1 ≤ l.length) (K (.rd (l.drop p.1)))
  | .ptr id ver a j => bK (rows id) ver fun _ => K (.ptr id ver a (j + p.1))
  | _ => False
 | _ => False
@[congr] theorem PT {t t' : TI} {rows : Rows} {i : Nat} {x x' : PV} {K : PV → Prop} (h : t = t') (h2 : x = x') : c7 t rows i x K = c7 t' rows i x' K := by rw [h, h2]
@[simp] theorem XI {fs : List (Nat × Nat × Bool)} {z : List PV} {rows : Rows} {i : Nat} {l : List PV} {K : PV → Prop} : c7 (.struct fs z) rows i (.rd l) K = eM (kB fs i) fun p => aH (p.1 ≤ l.length) (K (.rd (l.drop p.1))) := rfl
@[simp] theorem VM {fs : List (Nat × Nat × Bool)} {z : List PV} {rows : Rows} {i id ver a j : Nat} {K : PV → Prop} : c7 (.struct fs z) rows i (.ptr id ver a j) K = eM (kB fs i) fun p => bK (rows id) ver fun _ => K (.ptr id ver a (j + p.1)) := rfl
theorem oC {E : Env} {t : TypeId} {rows : Rows} {i : Nat} {x : PV} {K : PV → Prop} : aU (fun v => eH E t rows i x v) K = c7 (E.ty t) rows i x K := by
 simp only [eH, c7]
 cases E.ty t with
 | struct fs z =>
  simp only [eM]
  apply propext; simp only [aU]
  cases x with
  | rd l =>
   simp only [aH]
   constructor
   ·rintro ⟨v, ⟨o, n, b, h1, h2, rfl⟩, h3⟩; exact ⟨_, h1, h2, h3⟩
   ·rintro ⟨⟨o, n, b⟩, h1, h2, h3⟩; exact ⟨_, ⟨o, n, b, h1, h2, rfl⟩, h3⟩
  | ptr id ver a j =>
   simp only [bK]
   constructor
   ·rintro ⟨v, ⟨o, n, b, h1, ⟨r, h2, h3⟩, rfl⟩, h4⟩; exact ⟨_, h1, r, h2, h3, h4⟩
   ·rintro ⟨⟨o, n, b⟩, h1, r, h2, h3, h4⟩; exact ⟨_, ⟨o, n, b, h1, ⟨r, h2, h3⟩, rfl⟩, h4⟩
  | _ => simp
 | _ => simp [aU]
def bF (n : Nat) (l : List (List PV)) : Prop := ∀ e ∈ l, e.length = n
@[simp] theorem c8 {α : Type} {g : α → List PV} {n : Nat} {l : List α} : (Enc g n) → bF n (emap g l) = True := by
 intro h
 simp only [bF, emap, List.mem_map, eq_iff_iff, iff_true]
 rintro e ⟨x, _, rfl⟩
 exact h x
@[simp] theorem ahs {n : Nat} : bF n [] = True := by simp [bF]
@[simp] theorem ae4 {n : Nat} {e : List PV} {l : List (List PV)} : bF n (e :: l) = (e.length = n ∧ bF n l) := by simp [bF]
def bS (ti : TI) (rows : Rows) (x ix : PV) (K : PV → Prop) : Prop :=
 match ti, ix with
 | .slice _ n _ _, .int _ k => aH (0 ≤ k) (match x with
  | .sl l => aH (bF n l) (CP l k.toNat fun el => K (.rd el))
  | .iV l => aH (bF n l) (CP l k.toNat fun el => K (.rd el))
  | .own id ver off len => bK (rows id) ver fun r => aH (r.size = n ∧ k.toNat < len) (K (.ptr id ver (off + k.toNat) 0))
  | _ => False)
 | .arr _ m n _, .int _ k => aH (0 ≤ k ∧ k.toNat < m) (match x with
  | .rd l => aH (k.toNat * n ≤ l.length) (K (.rd (l.drop (k.toNat * n))))
  | .ptr id ver a j => bK (rows id) ver fun _ => K (.ptr id ver a (j + k.toNat * n))
  | _ => False)
 | _, _ => False
@[congr] theorem PU {t t' : TI} {rows : Rows} {x x' y y' : PV} {K : PV → Prop} (h : t = t') (h2 : x = x') (h3 : y = y') : bS t rows x y K = bS t' rows x' y' K := by rw [h, h2, h3]
section
variable {α : Type} [Inhabited α] {g : α → List PV} {l : List α} {e n b : Nat} {z : List PV} {rows : Rows} {kk : IntKind} {k : Int} {K : PV → Prop} {els : List (List PV)} {id ver off len : Nat}
@[simp] theorem VN : bS (.slice e n b z) rows (aJ g l) (.int kk k) K = aH (0 ≤ k ∧ k.toNat < l.length) (aH (bF n (emap g l)) (K (.rd (g (nth l k.toNat))))) := by
 simp only [bS, aJ, HU, aH, and_assoc]
 apply propext
 constructor
 ·rintro ⟨h1, h2, h3, h4⟩; exact ⟨h1, h3, h2, h4⟩
 ·rintro ⟨h1, h2, h3, h4⟩; exact ⟨h1, h3, h2, h4⟩
@[simp] theorem XJ : bS (.slice e n b z) rows (.sl els) (.int kk k) K = aH (0 ≤ k) (aH (bF n els) (CP els k.toNat fun el => K (.rd el))) := rfl
@[simp] theorem VO : bS (.slice e n b z) rows (.iV els) (.int kk k) K = aH (0 ≤ k) (aH (bF n els) (CP els k.toNat fun el => K (.rd el))) := rfl
@[simp] theorem VP {m : Nat} {l : List PV} : bS (.arr e m n z) rows (.rd l) (.int kk k) K = aH (0 ≤ k ∧ k.toNat < m) (aH (k.toNat * n ≤ l.length) (K (.rd (l.drop (k.toNat * n))))) := rfl
@[simp] theorem S7 {m a j : Nat} : bS (.arr e m n z) rows (.ptr id ver a j) (.int kk k) K = aH (0 ≤ k ∧ k.toNat < m) (bK (rows id) ver fun _ => K (.ptr id ver a (j + k.toNat * n))) := rfl
@[simp] theorem VQ : bS (.slice e n b z) rows (.own id ver off len) (.int kk k) K = aH (0 ≤ k) (bK (rows id) ver fun r => aH (r.size = n ∧ k.toNat < len) (K (.ptr id ver (off + k.toNat) 0))) := rfl
end
theorem oD {E : Env} {t : TypeId} {rows : Rows} {x ix : PV} {K : PV → Prop} : aU (fun v => eI E t rows x ix v) K = bS (E.ty t) rows x ix K := by
 simp only [eI, bS]
 cases E.ty t with
 | slice e n b z =>
  cases ix with
  | int kk k =>
   simp only
   rw [iJ]
   congr 1
   cases x with
   | sl l =>
    simp only [aH, CP, bF]
    apply propext; simp only [aU]
    constructor
    ·rintro ⟨v, ⟨el, h1, h2, rfl⟩, h4⟩; exact ⟨h2, el, h1, h4⟩
    ·rintro ⟨h2, el, h1, h4⟩; exact ⟨_, ⟨el, h1, h2, rfl⟩, h4⟩
   | iV l =>
    simp only [aH, CP, bF]
    apply propext; simp only [aU]
    constructor
    ·rintro ⟨v, ⟨el, h1, h2, rfl⟩, h4⟩; exact ⟨h2, el, h1, h4⟩
    ·rintro ⟨h2, el, h1, h4⟩; exact ⟨_, ⟨el, h1, h2, rfl⟩, h4⟩
   | own id ver off len =>
    simp only [aH, bK]
    apply propext; simp only [aU]
    constructor
    ·rintro ⟨v, ⟨r, h1, h2, h3, h4, rfl⟩, h5⟩; exact ⟨r, h1, h2, ⟨h3, h4⟩, h5⟩
    ·rintro ⟨r, h1, h2, ⟨h3, h4⟩, h5⟩; exact ⟨_, ⟨r, h1, h2, h3, h4, rfl⟩, h5⟩
   | _ => simp [aU]
  | _ => simp [aU]
 | arr e m n z =>
  cases ix with
  | int kk k =>
   simp only
   rw [iJ]
   congr 1
   cases x with
   | rd l =>
    simp only
    rw [iJ, iZ]
   | ptr id ver a j =>
    simp only [bK]
    apply propext; simp only [aU]
    constructor
    ·rintro ⟨v, ⟨⟨r, h1, h2⟩, rfl⟩, h3⟩; exact ⟨r, h1, h2, h3⟩
    ·rintro ⟨r, h1, h2, h3⟩; exact ⟨_, ⟨⟨r, h1, h2⟩, rfl⟩, h3⟩
   | _ => simp [aU]
  | _ => simp [aU]
 | _ => simp [aU]
def vY (d : Nat) (o : Option PV) (K : Nat → Prop) : Prop :=
 match o with
 | none => K d
 | some (.int _ k) => aH (0 ≤ k) (K k.toNat)
 | some _ => False
@[congr] theorem akj {d d' : Nat} {o o' : Option PV} {K : Nat → Prop} (h : d = d') (h2 : o = o') : vY d o K = vY d' o' K := by rw [h, h2]
@[simp] theorem ams {d : Nat} {K : Nat → Prop} : vY d none K = go (K d) := rfl
@[simp] theorem amt {d : Nat} {kk : IntKind} {k : Int} {K : Nat → Prop} : vY d (some (.int kk k)) K = aH (0 ≤ k) (K k.toNat) := rfl
theorem MP {d : Nat} {o : Option PV} {K : Nat → Prop} : vY d o K ↔ ∃ n, sH d o n ∧ K n := by
 cases o with
 | none => simp [vY, sH]
 | some p =>
  cases p with
  | int kk k =>
   simp only [vY, sH, aH]
   constructor
   ·rintro ⟨h1, h2⟩; exact ⟨_, ⟨h1, rfl⟩, h2⟩
   ·rintro ⟨n, ⟨h1, rfl⟩, h2⟩; exact ⟨h1, h2⟩
  | _ => simp [vY, sH]
def S8 {α : Type} (mk mkx : List α → PV) (n : Nat) (l : List α) (ok : Prop) (lo hi mx : Option PV) (K : PV → Prop) : Prop :=
 vY 0 lo fun a => vY l.length hi fun b => aH (a ≤ b ∧ b ≤ l.length) (aH ok (match mx with
  | none => K (mk ((l.take b).drop a))
  | some m => vY 0 (some m) fun c => aH (b = c ∧ hi.isSome = true) (K (mkx ((l.take b).drop a)))))
def eP (ti : TI) (rows : Rows) (x : PV) (lo hi mx : Option PV) (K : PV → Prop) : Prop :=
 match ti with
 | .slice _ n _ _ =>
  match x with
  | .nil => vY 0 lo fun a => vY 0 hi fun b => aH (a = 0 ∧ b = 0 ∧ mx.isNone = true) (K .nil)
  | .sl l => S8 .sl .iV n l (bF n l) lo hi mx K
  | .iV l => S8 .sl .iV n l (bF n l) lo hi mx K
  | .own id ver off len => bK (rows id) ver fun r => aH (r.size = n) (vY 0 lo fun a => vY len hi fun b => aH (a ≤ b ∧ b ≤ len ∧ mx.isNone = true) (K (.own id ver (off + a) (b - a))))
  | _ => False
 | _ => False
@[congr] theorem abF {t t' : TI} {rows : Rows} {x x' : PV} {lo K3 hi kE mx mx' : Option PV} {K : PV → Prop} (h : t = t') (h2 : x = x') (h3 : lo = K3) (h4 : hi = kE) (h5 : mx = mx') : eP t rows x lo hi mx K = eP t' rows x' K3 kE mx' K := by rw [h, h2, h3, h4, h5]
section
variable {α : Type} {g : α → List PV} {l : List α} {e n b : Nat} {z : List PV} {rows : Rows} {lo hi mx : Option PV} {K : PV → Prop} {els : List (List PV)} {id ver off len : Nat}
theorem HW {a b : Nat} : ((emap g l).take b).drop a = emap g ((l.take b).drop a) := by simp [emap]
@[simp] theorem ae5 : eP (.slice e n b z) rows (aJ g l) lo hi none K = vY 0 lo fun a => vY l.length hi fun b => aH (a ≤ b ∧ b ≤ l.length) (aH (bF n (emap g l)) (K (aJ g ((l.take b).drop a)))) := by
 simp only [eP, aJ, S8, HW]
 simp [emap]
theorem ES {m : PV} : eP (.slice e n b z) rows (aJ g l) lo hi (some m) K = vY 0 lo fun a => vY l.length hi fun b => aH (a ≤ b ∧ b ≤ l.length) (aH (bF n (emap g l)) (vY 0 (some m) fun c => aH (b = c ∧ hi.isSome = true) (K (.iV (emap g ((l.take b).drop a)))))) := by
 simp only [eP, aJ, S8, HW]
 simp [emap]
@[simp] theorem ae6 : eP (.slice e n b z) rows .nil lo hi mx K = vY 0 lo fun a => vY 0 hi fun b => aH (a = 0 ∧ b = 0 ∧ mx.isNone = true) (K .nil) := rfl
@[simp] theorem ae7 : eP (.slice e n b z) rows (.own id ver off len) lo hi mx K = bK (rows id) ver fun r => aH (r.size = n) (vY 0 lo fun a => vY len hi fun b => aH (a ≤ b ∧ b ≤ len ∧ mx.isNone = true) (K (.own id ver (off + a) (b - a)))) := rfl
end
theorem PW {l : List (List PV)} {n : Nat} {lo hi mx : Option PV} {K : PV → Prop} : (∃ v, (∃ a b, sH 0 lo a ∧ sH l.length hi b ∧ a ≤ b ∧ b ≤ l.length ∧ (∀ e ∈ l, e.length = n) ∧ LB l a b hi mx v) ∧ K v) ↔ S8 .sl .iV n l (bF n l) lo hi mx K := by
 simp only [S8, MP, aH, bF, LB]
 constructor
 ·rintro ⟨v, ⟨a, b, h1, h2, h3, h4, h5, h6⟩, h7⟩
  refine ⟨a, h1, b, h2, ⟨h3, h4⟩, h5, ?_⟩
  cases mx with
  | none => simp only at h6 ⊢; rw [← h6]; exact h7
  | some m => obtain ⟨c, q1, q2, q3, rfl⟩ := h6; exact ⟨c, q1, ⟨q2, q3⟩, h7⟩
 ·rintro ⟨a, h1, b, h2, ⟨h3, h4⟩, h5, h6⟩
  cases mx with
  | none => exact ⟨_, ⟨a, b, h1, h2, h3, h4, h5, rfl⟩, h6⟩
  | some m => obtain ⟨c, q1, ⟨q2, q3⟩, h7⟩ := h6; exact ⟨_, ⟨a, b, h1, h2, h3, h4, h5, c, q1, q2, q3, rfl⟩, h7⟩
theorem vZ {E : Env} {t : TypeId} {rows : Rows} {x : PV} {lo hi mx : Option PV} {K : PV → Prop} : aU (fun v => mF E t rows x lo hi mx v) K = eP (E.ty t) rows x lo hi mx K := by
 simp only [mF, eP]
 cases E.ty t with
 | slice e n b z =>
  cases x with
  | sl l => exact propext PW
  | iV l => exact propext PW
  | nil =>
   simp only [MP, aH]
   apply propext; simp only [aU]
   constructor
   ·rintro ⟨v, ⟨a, b, h1, h2, h3, h4, h5, rfl⟩, h6⟩; exact ⟨a, h1, b, h2, ⟨h3, h4, h5⟩, h6⟩
   ·rintro ⟨a, h1, b, h2, ⟨h3, h4, h5⟩, h6⟩; exact ⟨_, ⟨a, b, h1, h2, h3, h4, h5, rfl⟩, h6⟩
  | own id ver off len =>
   simp only [MP, aH, bK]
   apply propext; simp only [aU]
   constructor
   ·rintro ⟨v, ⟨r, q1, q2, q3, a, b, h1, h2, h3, h4, h5, rfl⟩, h6⟩; exact ⟨r, q1, q2, q3, a, h1, b, h2, ⟨h3, h4, h5⟩, h6⟩
   ·rintro ⟨r, q1, q2, q3, a, h1, b, h2, ⟨h3, h4, h5⟩, h6⟩; exact ⟨_, ⟨r, q1, q2, q3, a, b, h1, h2, h3, h4, h5, rfl⟩, h6⟩
  | _ => simp [aU]
 | _ => simp [aU]
def rE (rows : Rows) (x : PV) (K : PV → Prop) : Prop :=
 match x with
 | .rd l => K (.rd l)
 | .ptr id ver i j => bK (rows id) ver fun _ => K (.ptr id ver i j)
 | _ => False
@[congr] theorem ae8 {rows : Rows} {x x' : PV} {K : PV → Prop} (h : x = x') : rE rows x K = rE rows x' K := by rw [h]
@[simp] theorem amu {rows : Rows} {l : List PV} {K : PV → Prop} : rE rows (.rd l) K = go (K (.rd l)) := rfl
@[simp] theorem akk {rows : Rows} {id ver i j : Nat} {K : PV → Prop} : rE rows (.ptr id ver i j) K = bK (rows id) ver fun _ => K (.ptr id ver i j) := rfl
theorem CQ {rows : Rows} {x : PV} {K : PV → Prop} : aU (fun v => BL rows x v) K = rE rows x K := by
 simp only [BL, rE]
 cases x with
 | rd l => dsimp only; rw [iZ]
 | ptr id ver i j =>
  simp only [bK]
  apply propext; simp only [aU]
  constructor
  ·rintro ⟨v, ⟨⟨r, h1, h2⟩, rfl⟩, h3⟩; exact ⟨r, h1, h2, h3⟩
  ·rintro ⟨r, h1, h2, h3⟩; exact ⟨_, ⟨⟨r, h1, h2⟩, rfl⟩, h3⟩
 | _ => simp [aU]
def kF (ti : TI) (rows : Rows) (x : PV) (K : PV → Prop) : Prop :=
 match ti with
 | .slice _ _ _ _ => match x with
  | .nil => K (.int .i64 0)
  | .sl l => K (.int .i64 l.length)
  | .iV l => K (.int .i64 l.length)
  | .own id ver _ len => bK (rows id) ver fun _ => K (.int .i64 len)
  | _ => False
 | _ => False
@[congr] theorem ae9 {t t' : TI} {rows : Rows} {x x' : PV} {K : PV → Prop} (h : t = t') (h2 : x = x') : kF t rows x K = kF t' rows x' K := by rw [h, h2]
section
variable {α : Type} {g : α → List PV} {l : List α} {e n b : Nat} {z : List PV} {rows : Rows} {K : PV → Prop} {els : List (List PV)} {id ver off len : Nat}
@[simp] theorem akl : kF (.slice e n b z) rows (aJ g l) K = go (K (.int .i64 l.length)) := by show _ = K _; simp [kF, aJ, emap]
@[simp] theorem akm : kF (.slice e n b z) rows .nil K = go (K (.int .i64 0)) := rfl
@[simp] theorem amv : kF (.slice e n b z) rows (.sl els) K = go (K (.int .i64 els.length)) := rfl
@[simp] theorem akn : kF (.slice e n b z) rows (.iV els) K = go (K (.int .i64 els.length)) := rfl
@[simp] theorem ako : kF (.slice e n b z) rows (.own id ver off len) K = bK (rows id) ver fun _ => K (.int .i64 len) := rfl
end
theorem CR {ti : TI} {rows : Rows} {x : PV} {K : PV → Prop} : aU (fun v => vH ti rows x v) K = kF ti rows x K := by
 simp only [vH, kF]
 cases ti with
 | slice e n b z =>
  apply propext; simp only [aU, SC]
  cases x with
  | own id ver off len =>
   simp only [bK]
   constructor
   ·rintro ⟨v, ⟨n, ⟨⟨r, h1, h2⟩, rfl⟩, rfl⟩, h4⟩; exact ⟨r, h1, h2, h4⟩
   ·rintro ⟨r, h1, h2, h4⟩; exact ⟨_, ⟨_, ⟨⟨r, h1, h2⟩, rfl⟩, rfl⟩, h4⟩
  | _ => simp
 | _ => simp [aU]
def iK (els : List (List PV)) (i j : Nat) (l : List PV) : List (List PV) := els.set i (((els[i]?).getD []).take j ++ l ++ ((els[i]?).getD []).drop (j + l.length))
def sV (els : List (List PV)) (i n : Nat) : Prop := ∃ el, els[i]? = some el ∧ n ≤ el.length
def fS (rows : Rows) (l : List PV) : Prop := ∀ q ∈ l, gS rows q
@[simp] theorem aht {rows : Rows} : fS rows [] = True := by simp [fS]
@[simp] theorem afa {rows : Rows} {p : PV} {l : List PV} : fS rows (p :: l) = (gS rows p ∧ fS rows l) := by simp [fS]
@[simp] theorem ahu {α : Type} [Inhabited α] {g : α → List PV} {l : List α} {i n : Nat} : sV (emap g l) i n = (i < l.length ∧ n ≤ (g (nth l i)).length) := by
 exact HU (g := g) (l := l) (i := i) (K := fun el => n ≤ el.length)
def i3 (E : Env) (t : TypeId) (rows : Rows) (p x : PV) (K : Nat → Row → Prop) : Prop :=
 aH ((E.ty t).known = true) (match p with
 | .ptr id ver i j => bK (rows id) ver fun r => eM (bQ x) fun l => aH (sV r.els i (j + l.length) ∧ fS rows l ∧ l.length = (E.ty t).size) (K id ⟨ver, r.e, r.size, iK r.els i j l⟩)
 | _ => False)
@[congr] theorem abG {E : Env} {t : TypeId} {rows : Rows} {p p' x x' : PV} {K : Nat → Row → Prop} (h1 : p = p') (h2 : x = x') : i3 E t rows p x K = i3 E t rows p' x' K := by rw [h1, h2]
@[simp] theorem afb {E : Env} {t : TypeId} {rows : Rows} {id ver i j : Nat} {x : PV} {K : Nat → Row → Prop} : i3 E t rows (.ptr id ver i j) x K = aH ((E.ty t).known = true) (bK (rows id) ver fun r => eM (bQ x) fun l => aH (sV r.els i (j + l.length) ∧ fS rows l ∧ l.length = (E.ty t).size) (K id ⟨ver, r.e, r.size, iK r.els i j l⟩)) := rfl
theorem CS {E : Env} {t : TypeId} {rows : Rows} {p x : PV} {K : Nat → Row → Prop} : (∃ id r, oW E t rows p x .undef (some (id, r)) ∧ K id r) = i3 E t rows p x K := by
 simp only [oW, i3, aH, bK, eM, sV, fS]
 apply propext
 constructor
 ·rintro ⟨id, r, ⟨h1, _, h2⟩, h3⟩
  refine ⟨h1, ?_⟩
  split at h2
  ·obtain ⟨r0, q1, q2, el, q3, l, q4, q5, q6, q7, q8⟩ := h2
   simp only [Option.some.injEq, Prod.mk.injEq] at q8
   obtain ⟨rfl, rfl⟩ := q8
   refine ⟨r0, q1, q2, l, q4, ⟨⟨el, q3, q7⟩, q5, q6⟩, ?_⟩
   simp only [iK, q3, Option.getD_some]
   rw [q2] at h3
   exact h3
  ·exact h2.elim
 ·rintro ⟨h1, h2⟩
  split at h2
  ·obtain ⟨r0, q1, q2, l, q4, ⟨⟨el, q3, q7⟩, q5, q6⟩, h3⟩ := h2
   simp only [iK, q3, Option.getD_some] at h3
   refine ⟨_, _, ⟨h1, trivial, r0, q1, q2, el, q3, l, q4, q5, q6, q7, rfl⟩, ?_⟩
   rw [← q2] at h3
   exact h3
  ·exact h2.elim
def jH (rows : Rows) (y : PV) (K : List (List PV) → Prop) : Prop :=
 match y with
 | .nil => K []
 | .sl k => K k
 | .iV k => K k
 | .own id ver off len => bK (rows id) ver fun r => K ((r.els.drop off).take len)
 | _ => False
@[congr] theorem afc {rows : Rows} {y y' : PV} {K : List (List PV) → Prop} (h : y = y') : jH rows y K = jH rows y' K := by rw [h]
@[simp] theorem akp {rows : Rows} {K : List (List PV) → Prop} : jH rows .nil K = go (K []) := rfl
@[simp] theorem amw {rows : Rows} {l : List (List PV)} {K : List (List PV) → Prop} : jH rows (.sl l) K = go (K l) := rfl
@[simp] theorem akq {α : Type} {g : α → List PV} {rows : Rows} {l : List α} {K : List (List PV) → Prop} : jH rows (aJ g l) K = go (K (emap g l)) := rfl
@[simp] theorem akr {rows : Rows} {l : List (List PV)} {K : List (List PV) → Prop} : jH rows (.iV l) K = go (K l) := rfl
@[simp] theorem aks {rows : Rows} {id ver off len : Nat} {K : List (List PV) → Prop} : jH rows (.own id ver off len) K = bK (rows id) ver fun r => K ((r.els.drop off).take len) := rfl
theorem PY {rows : Rows} {y : PV} {K : List (List PV) → Prop} : (∃ l, sO rows y l ∧ K l) = jH rows y K := by
 simp only [sO, jH]
 apply propext
 cases y with
 | own id ver off len =>
  simp only [bK]
  constructor
  ·rintro ⟨l, ⟨r, h1, h2, rfl⟩, h3⟩; exact ⟨r, h1, h2, h3⟩
  ·rintro ⟨r, h1, h2, h3⟩; exact ⟨_, ⟨r, h1, h2, rfl⟩, h3⟩
 | _ => simp
def o9 (t : TI) (rows : Rows) (x y : PV) (clk d : Nat) (K : PV → Rows → Nat → Prop) : Prop :=
 match t with
 | .slice e n b _ => jH rows y fun l => aH (bF n l) (match x with
  | .nil => aH (l.length ≤ room ∧ l.length * b ≤ room) (K (.own d clk 0 l.length) (dF rows d (some ⟨clk, e, n, l⟩)) (clk + 1))
  | .own id ver off len => bK (rows id) ver fun r => aH (off = 0 ∧ len = r.els.length ∧ r.e = e ∧ r.size = n) (aH (len + l.length ≤ room ∧ (len + l.length) * b ≤ room) (K (.own id clk 0 (len + l.length)) (dF rows id (some ⟨clk, e, n, r.els ++ l⟩)) (clk + 1)))
  | .iV l0 => aH (bF n l0 ∧ ∀ e ∈ l, ∀ p ∈ e, bY p = true) (aH (l0.length + l.length ≤ room ∧ (l0.length + l.length) * b ≤ room) (K (.sl (l0 ++ l)) rows clk))
  | _ => False)
 | _ => False
@[congr] theorem afd {t t' : TI} {rows : Rows} {x x' y y' : PV} {clk d : Nat} {K : PV → Rows → Nat → Prop} (h1 : t = t') (h3 : x = x') (h4 : y = y') :
  o9 t rows x y clk d K = o9 t' rows x' y' clk d K := by rw [h1, h3, h4]
section
variable {e n b clk d id ver off len : Nat} {z : List PV} {rows : Rows} {y : PV} {K : PV → Rows → Nat → Prop} {l0 : List (List PV)}
@[simp] theorem akt : o9 (.slice e n b z) rows .nil y clk d K = jH rows y fun l => aH (bF n l) (aH (l.length ≤ room ∧ l.length * b ≤ room) (K (.own d clk 0 l.length) (dF rows d (some ⟨clk, e, n, l⟩)) (clk + 1))) := rfl
@[simp] theorem aku : o9 (.slice e n b z) rows (.own id ver off len) y clk d K = jH rows y fun l => aH (bF n l) (bK (rows id) ver fun r => aH (off = 0 ∧ len = r.els.length ∧ r.e = e ∧ r.size = n) (aH (len + l.length ≤ room ∧ (len + l.length) * b ≤ room) (K (.own id clk 0 (len + l.length)) (dF rows id (some ⟨clk, e, n, r.els ++ l⟩)) (clk + 1)))) := rfl
@[simp] theorem akv : o9 (.slice e n b z) rows (.iV l0) y clk d K = jH rows y fun l => aH (bF n l) (aH (bF n l0 ∧ ∀ e ∈ l, ∀ p ∈ e, bY p = true) (aH (l0.length + l.length ≤ room ∧ (l0.length + l.length) * b ≤ room) (K (.sl (l0 ++ l)) rows clk))) := rfl
end
theorem acw {t : TI} {rows : Rows} {x y : PV} {clk d : Nat} {K : PV → Rows → Nat → Prop} : SY t rows x y clk d K = o9 t rows x y clk d K := by
 unfold SY o9
 cases t with
 | slice e n b z =>
  dsimp only
  rw [← PY]
  congr 1; funext l; congr 1
  simp only [aH, bF]
  congr 1
  cases x with
  | own id ver off len => simp only [bK, and_assoc]
  | iV l0 => simp only [bF, and_assoc]
  | _ => rfl
 | _ => rfl
def fzR (o : Option Row) (ver off len : Nat) : PV :=
 match o with
 | some r => if r.ver = ver then .sl ((r.els.drop off).take len) else .undef
 | none => .undef
@[simp] theorem asa {rows : Rows} {id ver off len : Nat} : fz rows (.own id ver off len) = fzR (rows id) ver off len := rfl
@[simp] theorem amx {α : Type} {g : α → List PV} {l : List α} {ver e n off len : Nat} : fzR (some ⟨ver, e, n, emap g l⟩) ver off len = aJ g ((l.drop off).take len) := by simp [fzR, aJ, emap]
@[simp] theorem asb {rows : Rows} : fz rows .nil = .sl [] := rfl
@[simp] theorem asc {rows : Rows} {l : List (List PV)} : fz rows (.iV l) = .sl l := rfl
@[simp] theorem au4 {rows : Rows} {l : List (List PV)} : fz rows (.sl l) = .sl l := rfl
@[simp] theorem asd {α : Type} {g : α → List PV} {rows : Rows} {l : List α} : fz rows (aJ g l) = aJ g l := rfl
@[simp] theorem ase {rows : Rows} {k : IntKind} {n : Int} : fz rows (.int k n) = .int k n := rfl
@[simp] theorem ap7 {rows : Rows} {b : Bool} : fz rows (.bool b) = .bool b := rfl
@[simp] theorem au5 {rows : Rows} {f : FuncId} {l : List PV} : fz rows (.fn f l) = .fn f l := rfl
@[simp] theorem asf {rows : Rows} {id ver off len : Nat} : pz rows (.own id ver off len) = fzR (rows id) ver off len := rfl
@[simp] theorem asg {rows : Rows} : pz rows .nil = .sl [] := rfl
@[simp] theorem ash {rows : Rows} {l : List (List PV)} : pz rows (.iV l) = .sl l := rfl
@[simp] theorem au6 {rows : Rows} {l : List (List PV)} : pz rows (.sl l) = .sl l := rfl
@[simp] theorem asi {α : Type} {g : α → List PV} {rows : Rows} {l : List α} : pz rows (aJ g l) = aJ g l := rfl
@[simp] theorem asj {rows : Rows} {k : IntKind} {n : Int} : pz rows (.int k n) = .int k n := rfl
@[simp] theorem ap8 {rows : Rows} {b : Bool} : pz rows (.bool b) = .bool b := rfl
@[simp] theorem au7 {rows : Rows} {f : FuncId} {l : List PV} : pz rows (.fn f l) = .fn f l := rfl
@[simp] theorem au8 {rows : Rows} {l : List PV} : pz rows (.ag l) = .ag (l.map (fz rows)) := rfl
@[simp] theorem amy {α : Type} {g : α → List PV} {l : List α} : eY (aJ g l) = true := rfl
@[simp] theorem akx {α : Type} {g : α → List PV} {l : List α} : bY (aJ g l) = true := rfl
@[simp] theorem ap9 {α : Type} {g : α → List PV} {l : List α} : a7 (aJ g l) = [] := rfl
@[simp] theorem amz {α : Type} {g : α → List PV} {l : List α} : dD (aJ g l) = [] := rfl
@[simp] theorem aqa {l : List (List PV)} : dD (.sl l) = [] := rfl
@[simp] theorem amA {l : List (List PV)} : dD (.iV l) = [] := rfl
@[simp] theorem amB {k : IntKind} {n : Int} : dD (.int k n) = [] := rfl
@[simp] theorem aky {b : Bool} : dD (.bool b) = [] := rfl
@[simp] theorem aqb {f : FuncId} {l : List PV} : dD (.fn f l) = [] := rfl
@[simp] theorem amC : dD .nil = [] := rfl
@[simp] theorem amD {id ver off len : Nat} : dD (.own id ver off len) = [id] := rfl
@[simp] theorem aqc {l : List PV} : dD (.ag l) = l.flatMap a7 := rfl
@[simp] theorem amE {α : Type} {g : α → List PV} {rows : Rows} {l : List α} : gS rows (aJ g l) = True := rfl
@[simp] theorem ahv {α : Type} {g : α → List PV} {l : List α} : bQ (aJ g l) = some [aJ g l] := rfl
@[simp] theorem ahw {α : Type} {g : α → List PV} {l : List α} : dY (aJ g l) = some [aJ g l] := rfl
def cT (o : Option Row) : Prop := ∀ r, o = some r → ∀ e ∈ r.els, ∀ p ∈ e, bY p = true
@[simp] theorem acx {rows : Rows} : dK rows [] = True := by simp [dK]
@[simp] theorem abH {rows : Rows} {id : Nat} {ids : List Nat} : dK rows (id :: ids) = (cT (rows id) ∧ dK rows ids) := by simp [dK, cT]
@[simp] theorem acy : cT none = True := by simp [cT]
@[simp] theorem cQ {α : Type} {g : α → List PV} {l : List α} {ver e n : Nat} (h : amn g) : cT (some ⟨ver, e, n, emap g l⟩) = True := by
 simp only [cT, emap, Option.some.injEq, eq_iff_iff, iff_true]
 rintro r rfl e he p hp
 simp at he
 obtain ⟨x, _, rfl⟩ := he
 exact List.all_eq_true.1 (h x) p hp
@[simp] theorem aqd {rows : Rows} : CJ rows [] = rows := by funext j; simp [CJ]
@[simp] theorem asl {rows : Rows} {ids : List Nat} {j : Nat} : CJ rows ids j = if j ∈ ids then none else rows j := rfl
def kU (fs : List (Nat × Nat × Bool)) : List (Nat × PV) → List PV → (List PV → Prop) → Prop
 | [], z, K => K z
 | (i, p) :: ps, z, K => eM (kB fs i) fun q => eM (dY p) fun l => aH (l.length = q.2.1 ∧ q.1 + q.2.1 ≤ z.length) (kU fs ps (z.take q.1 ++ l ++ z.drop (q.1 + q.2.1)) K)
@[congr] theorem afe {fs : List (Nat × Nat × Bool)} {ps PZ : List (Nat × PV)} {z z' : List PV} {K : List PV → Prop} (h : ps = PZ) (h2 : z = z') : kU fs ps z K = kU fs PZ z' K := by rw [h, h2]
@[simp] theorem akz {fs : List (Nat × Nat × Bool)} {z : List PV} {K : List PV → Prop} : kU fs [] z K = go (K z) := rfl
@[simp] theorem ahx {fs : List (Nat × Nat × Bool)} {i : Nat} {p : PV} {ps : List (Nat × PV)} {z : List PV} {K : List PV → Prop} : kU fs ((i, p) :: ps) z K = eM (kB fs i) fun q => eM (dY p) fun l => aH (l.length = q.2.1 ∧ q.1 + q.2.1 ≤ z.length) (kU fs ps (z.take q.1 ++ l ++ z.drop (q.1 + q.2.1)) K) := rfl
theorem y5 {fs : List (Nat × Nat × Bool)} : ∀ {ps : List (Nat × PV)} {z : List PV} {K : List PV → Prop}, (∃ l, qX fs ps z = some l ∧ K l) ↔ kU fs ps z K
 | [], z, K => by simp [qX, kU]
 | (i, p) :: ps, z, K => by
  simp only [qX, kU, eM, aH, kB]
  cases h1 : fs[i]? with
  | none => simp
  | some q =>
   obtain ⟨o, n, b⟩ := q
   cases h2 : dY p with
   | none => simp
   | some l =>
    simp only [Option.some.injEq, exists_eq_left']
    rw [← y5]
    split
    ·rename_i h; simp [h]
    ·rename_i h; simp [h]
def jW (ti : TI) (ps : List (Nat × PV)) (K : PV → Prop) : Prop :=
 match ti with
 | .struct fs z => kU fs ps z fun l => K (.ag l)
 | .arr _ k n z => kU (LD k n) ps z fun l => K (.ag l)
 | _ => False
@[congr] theorem abI {t t' : TI} {ps PZ : List (Nat × PV)} {K : PV → Prop} (h : t = t') (h2 : ps = PZ) : jW t ps K = jW t' PZ K := by rw [h, h2]
@[simp] theorem XK {fs : List (Nat × Nat × Bool)} {z : List PV} {ps : List (Nat × PV)} {K : PV → Prop} : jW (.struct fs z) ps K = kU fs ps z fun l => K (.ag l) := rfl
@[simp] theorem aff {e k n : Nat} {z : List PV} {ps : List (Nat × PV)} {K : PV → Prop} : jW (.arr e k n z) ps K = kU (LD k n) ps z fun l => K (.ag l) := rfl
@[simp] theorem akA {k n i : Nat} : kB (LD k n) i = if i < k then some (i * n, n, false) else none := by
 unfold kB LD
 rw [List.getElem?_map]
 split
 ·rename_i h; rw [List.getElem?_range h]; rfl
 ·rename_i h; rw [List.getElem?_eq_none (by simpa using h)]; rfl
theorem wB {ti : TI} {ps : List (Nat × PV)} {K : PV → Prop} : aU (fun v => oS ti ps v) K = jW ti ps K := by
 simp only [oS, jW]
 cases ti with
 | struct fs z =>
  apply propext; simp only [aU]
  rw [← y5]
  constructor
  ·rintro ⟨v, ⟨l, h1, rfl⟩, h2⟩; exact ⟨l, h1, h2⟩
  ·rintro ⟨l, h1, h2⟩; exact ⟨_, ⟨l, h1, rfl⟩, h2⟩
 | arr e k n z =>
  apply propext; simp only [aU]
  rw [← y5]
  constructor
  ·rintro ⟨v, ⟨l, h1, rfl⟩, h2⟩; exact ⟨l, h1, h2⟩
  ·rintro ⟨l, h1, h2⟩; exact ⟨_, ⟨l, h1, rfl⟩, h2⟩
 | _ => simp [aU]
def iC (n : Nat) : Nat → List (Nat × PV) → (List (List PV) → Prop) → Prop
 | _, [], K => K []
 | k, (i, p) :: ps, K => eM (bQ p) fun l => aH (i = k ∧ l.length = n) (iC n (k + 1) ps fun els => K (l :: els))
@[congr] theorem acz {n k : Nat} {ps PZ : List (Nat × PV)} {K : List (List PV) → Prop} (h : ps = PZ) : iC n k ps K = iC n k PZ K := by rw [h]
@[simp] theorem ahy {n k : Nat} {K : List (List PV) → Prop} : iC n k [] K = go (K []) := rfl
@[simp] theorem afg {n k i : Nat} {p : PV} {ps : List (Nat × PV)} {K : List (List PV) → Prop} : iC n k ((i, p) :: ps) K = eM (bQ p) fun l => aH (i = k ∧ l.length = n) (iC n (k + 1) ps fun els => K (l :: els)) := rfl
theorem uQ {n : Nat} : ∀ {ps : List (Nat × PV)} {k : Nat} {K : List (List PV) → Prop}, (∃ l, fQ n k ps = some l ∧ K l) ↔ iC n k ps K
 | [], k, K => by simp [fQ, iC]
 | (i, p) :: ps, k, K => by
  simp only [fQ, iC, eM, aH]
  cases h2 : bQ p with
  | none => simp
  | some l =>
   simp only [Option.some.injEq, exists_eq_left']
   rw [← uQ]
   by_cases h : i = k ∧ l.length = n
   ·rw [if_pos h]
    constructor
    ·rintro ⟨e, h1, h3⟩
     obtain ⟨e', h4, rfl⟩ := Option.map_eq_some_iff.1 h1
     exact ⟨h, e', h4, h3⟩
    ·rintro ⟨_, e', h4, h3⟩
     exact ⟨_, by rw [h4]; rfl, h3⟩
   ·rw [if_neg h]; simp [h]
def y6 (rows : Rows) (els : List (List PV)) : Prop := (∀ e ∈ els, ∀ p ∈ e, bY (fz rows p) = true ∧ gS rows p) ∧ (∀ e ∈ els, ∀ p ∈ e, a7 p = [])
@[simp] theorem akB {rows : Rows} : y6 rows [] = True := by simp [y6]
@[simp] theorem ahz {rows : Rows} {e : List PV} {els : List (List PV)} : y6 rows (e :: els) = ((∀ p ∈ e, bY (fz rows p) = true ∧ gS rows p ∧ a7 p = []) ∧ y6 rows els) := by
 simp only [y6, List.mem_cons, forall_eq_or_imp, eq_iff_iff]
 constructor
 ·rintro ⟨⟨h1, h2⟩, h3, h4⟩; exact ⟨fun p hp => ⟨(h1 p hp).1, (h1 p hp).2, h3 p hp⟩, h2, h4⟩
 ·rintro ⟨h1, h2, h4⟩; exact ⟨⟨fun p hp => ⟨(h1 p hp).1, (h1 p hp).2.1⟩, h2⟩, fun p hp => (h1 p hp).2.2, h4⟩
def sW (ti : TI) (rows : Rows) (len : Nat) (ps : List (Nat × PV)) (K : PV → Prop) : Prop :=
 match ti with
 | .slice _ n _ _ => iC n 0 ps fun els => aH (len = els.length ∧ len ≤ 4096 ∧ n ≤ 4096 ∧ y6 rows els) (K (.iV (els.map fun e => e.map (fz rows))))
 | _ => False
@[congr] theorem afh {t t' : TI} {rows : Rows} {len : Nat} {ps PZ : List (Nat × PV)} {K : PV → Prop} (h : t = t') (h2 : ps = PZ) : sW t rows len ps K = sW t' rows len PZ K := by rw [h, h2]
@[simp] theorem afi {e n b : Nat} {z : List PV} {rows : Rows} {len : Nat} {ps : List (Nat × PV)} {K : PV → Prop} : sW (.slice e n b z) rows len ps K = iC n 0 ps fun els => aH (len = els.length ∧ len ≤ 4096 ∧ n ≤ 4096 ∧ y6 rows els) (K (.iV (els.map fun e => e.map (fz rows)))) := rfl
theorem CT {ti : TI} {rows : Rows} {len : Nat} {ps : List (Nat × PV)} {K : PV → Prop} : aU (fun v => LU ti rows len ps v) K = sW ti rows len ps K := by
 simp only [LU, sW]
 cases ti with
 | slice e n b z =>
  apply propext; simp only [aU]
  rw [← uQ]
  constructor
  ·rintro ⟨v, ⟨l, h1, h2, h3, h4, h5, h6, rfl⟩, h7⟩; exact ⟨l, h1, ⟨h2, h3, h4, h5, h6⟩, h7⟩
  ·rintro ⟨l, h1, ⟨h2, h3, h4, h5, h6⟩, h7⟩; exact ⟨_, ⟨l, h1, h2, h3, h4, h5, h6, rfl⟩, h7⟩
 | _ => simp [aU]
def sX (i : Nat) (x : PV) (K : PV → Prop) : Prop :=
 match x with
 | .eA l => eM (kB l i) K
 | _ => False
@[congr] theorem afj {i : Nat} {x x' : PV} {K : PV → Prop} (h : x = x') : sX i x K = sX i x' K := by rw [h]
@[simp] theorem akC {i : Nat} {l : List PV} {K : PV → Prop} : sX i (.eA l) K = eM (kB l i) K := rfl
theorem CU {i : Nat} {x : PV} {K : PV → Prop} : aU (fun v => LC i x v) K = sX i x K := by
 simp only [LC, sX]
 cases x <;> first | rfl | simp [aU]
def BV : List Oper → Nat → Option Tmp
 | [], _ => none
 | o :: _, 0 => o.dst
 | _ :: os, n + 1 => BV os n
theorem ET : ∀ (ops : List Oper) (j : Nat), BV ops j = (ops[j]?).bind (·.dst)
 | [], j => by simp [BV]
 | o :: os, 0 => by simp [BV]
 | o :: os, n + 1 => by simp [BV, ET os n]
@[simp] theorem akD {d : Option Tmp} {op : Op} {ty : TypeId} {pos : String} {af : Array Edge} {g : Option (Nat × Bool)} {os : List Oper} : BV (⟨d, op, ty, pos, af, g⟩ :: os) 0 = d := rfl
@[simp] theorem akE {o : Oper} {os : List Oper} {n : Nat} : BV (o :: os) (n + 1) = BV os n := rfl
def nP (o : Option Tmp) (f : Nat → PV) (w : Bool) (A B : Prop) : Prop :=
 match o with
 | none => False
 | some e => stepG (f e) w A B
@[congr] theorem acA {o o' : Option Tmp} {f : Nat → PV} {w : Bool} {A B : Prop} (h : o = o') : nP o f w A B = nP o' f w A B := by rw [h]
@[simp] theorem afk {e : Tmp} {f : Nat → PV} {w : Bool} {A B : Prop} : nP (some e) f w A B = stepG (f e) w A B := rfl
@[simp] theorem akF {o : Option Tmp} {f : Nat → PV} {w : Bool} {A B : Prop} : go (nP o f w A B) = nP o f w A B := rfl
section
variable {E : Env} {ops os : List Oper} {K : PS → Prop} {f : Nat → PV} {rows : Rows} {clk : Nat} {d : Option Tmp} {ty : TypeId} {pos : String} {af : Array Edge} {k : Nat} {bN : Nat → Nat → Prop} {aO : Nat → Nat → Prop}
theorem HX {op : Op} {j : Nat} {want : Bool} : aL E ops (⟨d, op, ty, pos, af, some (j, want)⟩ :: os) K ⟨f, rows, clk⟩ = nP ((ops[j]?).bind (·.dst)) f want (aL E ops (⟨d, op, ty, pos, af, none⟩ :: os) K ⟨f, rows, clk⟩) (aL E ops os K ⟨put f d (.eA []), rows, clk⟩) := MA
theorem HY {op : Op} {j : Nat} {want : Bool} : aN E ops clk k (⟨d, op, ty, pos, af, some (j, want)⟩ :: os) K ⟨f, rows, bN, aO⟩ = nP ((ops[j]?).bind (·.dst)) f want (aN E ops clk k (⟨d, op, ty, pos, af, none⟩ :: os) K ⟨f, rows, bN, aO⟩) (aN E ops clk (k + 1) os K ⟨put f d (.eA []), rows, bN, aO⟩) := MH
end
section
variable {E : Env} {ops os : List Oper} {K : PS → Prop} {f : Nat → PV} {rows : Rows} {clk : Nat} {d : Option Tmp} {ty : TypeId} {pos : String} {af : Array Edge} {k : Nat} {bN : Nat → Nat → Prop} {aO : Nat → Nat → Prop}
theorem MQ {t : TypeId} {x : Operand} : aL E ops (⟨d, .load t x, ty, pos, af, none⟩ :: os) K ⟨f, rows, clk⟩ = jP E t rows (aR f x) fun v => aL E ops os K ⟨put f d v, rows, clk⟩ := by rw [SX, rQ]
theorem HZ {t : TypeId} {i : Nat} {x : Operand} : aL E ops (⟨d, .field t x i, ty, pos, af, none⟩ :: os) K ⟨f, rows, clk⟩ = i0 (E.ty t) i (aR f x) fun v => aL E ops os K ⟨put f d v, rows, clk⟩ := by rw [MB, vX]
theorem xC {t : TypeId} {i : Nat} {x : Operand} : aL E ops (⟨d, .fieldAddr t x i, ty, pos, af, none⟩ :: os) K ⟨f, rows, clk⟩ = c7 (E.ty t) rows i (aR f x) fun v => aL E ops os K ⟨put f d v, rows, clk⟩ := by rw [yW, oC]
theorem xD {t : TypeId} {x y : Operand} : aL E ops (⟨d, .indexAddr t x y, ty, pos, af, none⟩ :: os) K ⟨f, rows, clk⟩ = bS (E.ty t) rows (aR f x) (aR f y) fun v => aL E ops os K ⟨put f d v, rows, clk⟩ := by rw [yX, oD]
theorem H0 {t : TypeId} {x : Operand} {lo hi mx : Option Operand} : aL E ops (⟨d, .slice t x lo hi mx, ty, pos, af, none⟩ :: os) K ⟨f, rows, clk⟩ = eP (E.ty t) rows (aR f x) (lo.map (aR f)) (hi.map (aR f)) (mx.map (aR f)) fun v => aL E ops os K ⟨put f d v, rows, clk⟩ := by rw [MC, vZ]
theorem S9 {t : TypeId} {x : Operand} : aL E ops (⟨d, .call { callee := .builtin .len, args := ⟨[x]⟩, argTypes := ⟨[t]⟩ }, ty, pos, af, none⟩ :: os) K ⟨f, rows, clk⟩ = kF (E.ty t) rows (aR f x) fun v => aL E ops os K ⟨put f d v, rows, clk⟩ := by rw [W8, CR]
theorem H3 {t : TypeId} {p x : Operand} : aL E ops (⟨none, .store t p x, ty, pos, af, none⟩ :: os) K ⟨f, rows, clk⟩ = i3 E t rows (aR f p) (aR f x) fun id r => aL E ops os K ⟨f, dF rows id (some r), clk⟩ := by rw [MF, CS]
theorem EU {t t2 : TypeId} {x y : Operand} : aL E ops (⟨d, .call { callee := .builtin .append, args := ⟨[x, y]⟩, argTypes := ⟨[t, t2]⟩ }, ty, pos, af, none⟩ :: os) K ⟨f, rows, clk⟩ =
  aH (t2 = t ∨ V6 (E.ty t2) = true) (o9 (E.ty t) rows (aR f x) (aR f y) clk (d.getD 0) fun v rows clk => aL E ops os K ⟨put f d v, rows, clk⟩) := by rw [HQ, acw]
theorem MR {t : TypeId} {x : Operand} : aN E ops clk k (⟨d, .load t x, ty, pos, af, none⟩ :: os) K ⟨f, rows, bN, aO⟩ = jP E t (dM .any ops k aO rows) (aR f x) fun v => aN E ops clk (k + 1) os K ⟨put f d v, rows, j2 k (a7 (aR f x)) bN, aO⟩ := by rw [S6, rQ]
theorem H4 {t : TypeId} {i : Nat} {x : Operand} : aN E ops clk k (⟨d, .field t x i, ty, pos, af, none⟩ :: os) K ⟨f, rows, bN, aO⟩ = i0 (E.ty t) i (aR f x) fun v => aN E ops clk (k + 1) os K ⟨put f d v, rows, bN, aO⟩ := by rw [MI, vX]
theorem xE {t : TypeId} {i : Nat} {x : Operand} : aN E ops clk k (⟨d, .fieldAddr t x i, ty, pos, af, none⟩ :: os) K ⟨f, rows, bN, aO⟩ = c7 (E.ty t) (dM .any ops k aO rows) i (aR f x) fun v => aN E ops clk (k + 1) os K ⟨put f d v, rows, j2 k (a7 (aR f x)) bN, aO⟩ := by rw [yZ, oC]
theorem xF {t : TypeId} {x y : Operand} : aN E ops clk k (⟨d, .indexAddr t x y, ty, pos, af, none⟩ :: os) K ⟨f, rows, bN, aO⟩ = bS (E.ty t) (dM .any ops k aO rows) (aR f x) (aR f y) fun v => aN E ops clk (k + 1) os K ⟨put f d v, rows, j2 k (a7 (aR f x)) bN, aO⟩ := by rw [y3, oD]
theorem H5 {t : TypeId} {x : Operand} {lo hi mx : Option Operand} : aN E ops clk k (⟨d, .slice t x lo hi mx, ty, pos, af, none⟩ :: os) K ⟨f, rows, bN, aO⟩ = eP (E.ty t) (dM .any ops k aO rows) (aR f x) (lo.map (aR f)) (hi.map (aR f)) (mx.map (aR f)) fun v => aN E ops clk (k + 1) os K ⟨put f d v, rows, j2 k (a7 (aR f x)) bN, aO⟩ := by rw [MJ, vZ]
theorem TA {t : TypeId} {x : Operand} : aN E ops clk k (⟨d, .call { callee := .builtin .len, args := ⟨[x]⟩, argTypes := ⟨[t]⟩ }, ty, pos, af, none⟩ :: os) K ⟨f, rows, bN, aO⟩ = kF (E.ty t) (dM .any ops k aO rows) (aR f x) fun v => aN E ops clk (k + 1) os K ⟨put f d v, rows, j2 k (a7 (aR f x)) bN, aO⟩ := by rw [XD, CR]
theorem H6 {t : TypeId} {p x : Operand} : aN E ops clk k (⟨none, .store t p x, ty, pos, af, none⟩ :: os) K ⟨f, rows, bN, aO⟩ =
  i3 E t (dM .any ops k aO rows) (aR f p) (aR f x) fun id r => aH (yP .any ops k id bN) (aN E ops clk (k + 1) os K ⟨f, dF rows id (some r), j2 k (a7 (aR f p) ++ ((bQ (aR f x)).getD []).flatMap a7) bN, nN k id aO⟩) := by rw [MM, ← CS]; rfl
theorem P3 {x : Operand} : go (aL E ops (⟨d, .move x, ty, pos, af, none⟩ :: os) K ⟨f, rows, clk⟩) = go (aL E ops os K ⟨put f d (aR f x), rows, clk⟩) := SU
theorem CV {x : Operand} : go (aL E ops (⟨d, .assign x, ty, pos, af, none⟩ :: os) K ⟨f, rows, clk⟩) = go (aL E ops os K ⟨put f d (aR f x), rows, clk⟩) := HP
theorem acB {c a b : Operand} : go (aL E ops (⟨d, .pick c a b, ty, pos, af, none⟩ :: os) K ⟨f, rows, clk⟩) = gL (aR f c) true (aL E ops os K ⟨put f d (aR f a), rows, clk⟩) (aL E ops os K ⟨put f d (aR f b), rows, clk⟩) := SV
theorem XL {op : BinOp} {t t2 : TypeId} {x y : Operand} : go (aL E ops (⟨d, .binOp op t x y t2, ty, pos, af, none⟩ :: os) K ⟨f, rows, clk⟩) = aU (fun v => D6 E op t (aR f x) (aR f y) v) fun v => aL E ops os K ⟨put f d v, rows, clk⟩ := W7
theorem amF {op : UnOp} {t : TypeId} {x : Operand} : go (aL E ops (⟨d, .unOp op t x, ty, pos, af, none⟩ :: os) K ⟨f, rows, clk⟩) = aU (fun v => yun op (aR f x) v) fun v => aL E ops os K ⟨put f d v, rows, clk⟩ := acp
theorem EV {s t : TypeId} {x : Operand} : go (aL E ops (⟨d, .convert s t x, ty, pos, af, none⟩ :: os) K ⟨f, rows, clk⟩) = aU (fun v => qY (E.ty s) (E.ty t) (aR f x) v) fun v => aL E ops os K ⟨put f d v, rows, clk⟩ := SW
theorem MS {i : Nat} {x : Operand} : go (aL E ops (⟨d, .extract x i, ty, pos, af, none⟩ :: os) K ⟨f, rows, clk⟩) = sX i (aR f x) fun v => aL E ops os K ⟨put f d v, rows, clk⟩ := by
 show aL E ops (⟨d, .extract x i, ty, pos, af, none⟩ :: os) K ⟨f, rows, clk⟩ = _
 rw [EO, CU]
theorem acC {t : TypeId} {x : Operand} : go (aL E ops (⟨d, .load t x, ty, pos, af, none⟩ :: os) K ⟨f, rows, clk⟩) = jP E t rows (aR f x) fun v => aL E ops os K ⟨put f d v, rows, clk⟩ := MQ
theorem XM {t : TypeId} {i : Nat} {x : Operand} : go (aL E ops (⟨d, .field t x i, ty, pos, af, none⟩ :: os) K ⟨f, rows, clk⟩) = i0 (E.ty t) i (aR f x) fun v => aL E ops os K ⟨put f d v, rows, clk⟩ := HZ
theorem EW {t : TypeId} {i : Nat} {x : Operand} : go (aL E ops (⟨d, .fieldAddr t x i, ty, pos, af, none⟩ :: os) K ⟨f, rows, clk⟩) = c7 (E.ty t) rows i (aR f x) fun v => aL E ops os K ⟨put f d v, rows, clk⟩ := xC
theorem EX {t : TypeId} {x y : Operand} : go (aL E ops (⟨d, .indexAddr t x y, ty, pos, af, none⟩ :: os) K ⟨f, rows, clk⟩) = bS (E.ty t) rows (aR f x) (aR f y) fun v => aL E ops os K ⟨put f d v, rows, clk⟩ := xD
theorem XN {t : TypeId} {x : Operand} {lo hi mx : Option Operand} : go (aL E ops (⟨d, .slice t x lo hi mx, ty, pos, af, none⟩ :: os) K ⟨f, rows, clk⟩) = eP (E.ty t) rows (aR f x) (lo.map (aR f)) (hi.map (aR f)) (mx.map (aR f)) fun v => aL E ops os K ⟨put f d v, rows, clk⟩ := H0
theorem XO {t : TypeId} {parts : Array (Nat × Operand)} : go (aL E ops (⟨d, .build t parts, ty, pos, af, none⟩ :: os) K ⟨f, rows, clk⟩) = jW (E.ty t) (parts.toList.map fun x => (x.1, aR f x.2)) fun v => aL E ops os K ⟨put f d v, rows, clk⟩ := by
 show aL E ops (⟨d, .build t parts, ty, pos, af, none⟩ :: os) K ⟨f, rows, clk⟩ = _
 rw [MD, wB]
theorem H7 {t : TypeId} {x y : Operand} : go (aL E ops (⟨d, .index t x y, ty, pos, af, none⟩ :: os) K ⟨f, rows, clk⟩) = aU (fun v => rJ (E.ty t) (aR f x) (aR f y) v) fun v => aL E ops os K ⟨put f d v, rows, clk⟩ := ME
theorem H8 {x : Operand} : go (aL E ops (⟨d, .nilCheck x, ty, pos, af, none⟩ :: os) K ⟨f, rows, clk⟩) = rE rows (aR f x) fun v => aL E ops os K ⟨put f d v, rows, clk⟩ := by show aL E ops _ K _ = _; rw [BR, CQ]
theorem ahA {t : TypeId} {x : Operand} : go (aL E ops (⟨d, .call { callee := .builtin .len, args := ⟨[x]⟩, argTypes := ⟨[t]⟩ }, ty, pos, af, none⟩ :: os) K ⟨f, rows, clk⟩) = kF (E.ty t) rows (aR f x) fun v => aL E ops os K ⟨put f d v, rows, clk⟩ := S9
theorem ahB {ts : Array TypeId} {x y : Operand} : go (aL E ops (⟨d, .call { callee := .builtin .max, args := ⟨[x, y]⟩, argTypes := ts }, ty, pos, af, none⟩ :: os) K ⟨f, rows, clk⟩) = aU (fun v => LF (aR f x) (aR f y) v) fun v => aL E ops os K ⟨put f d v, rows, clk⟩ := W9
theorem ahC {ts : Array TypeId} {x y : Operand} : go (aL E ops (⟨d, .call { callee := .builtin .min, args := ⟨[x, y]⟩, argTypes := ts }, ty, pos, af, none⟩ :: os) K ⟨f, rows, clk⟩) = aU (fun v => LG (aR f x) (aR f y) v) fun v => aL E ops os K ⟨put f d v, rows, clk⟩ := XA
theorem BW {t : TypeId} {len : Nat} {parts : Array (Nat × Operand)} : go (aL E ops (⟨d, .buildSlice t len parts, ty, pos, af, none⟩ :: os) K ⟨f, rows, clk⟩) = sW (E.ty t) rows len (parts.toList.map fun x => (x.1, aR f x.2)) fun v => aL E ops os K ⟨put f d v, rows, clk⟩ := by
 show aL E ops (⟨d, .buildSlice t len parts, ty, pos, af, none⟩ :: os) K ⟨f, rows, clk⟩ = _
 rw [xA, CT]
theorem XP {t : TypeId} {p x : Operand} : go (aL E ops (⟨none, .store t p x, ty, pos, af, none⟩ :: os) K ⟨f, rows, clk⟩) = i3 E t rows (aR f p) (aR f x) fun id r => aL E ops os K ⟨f, dF rows id (some r), clk⟩ := H3
theorem XQ {t : TypeId} : go (aL E ops (⟨d, .alloc t, ty, pos, af, none⟩ :: os) K ⟨f, rows, clk⟩) = aH ((E.ty t).known = true) (aL E ops os K ⟨put f d (.ptr (d.getD 0) clk 0 0), dF rows (d.getD 0) (some ⟨clk, t, (E.ty t).size, [(E.ty t).zero]⟩), clk + 1⟩) := MG
theorem ahD {t : TypeId} {x : Operand} : go (aL E ops (⟨d, .box t x, ty, pos, af, none⟩ :: os) K ⟨f, rows, clk⟩) = aH ((E.ty t).known = true) (eM (bQ (aR f x)) fun l => aH (fS rows l ∧ l.length = (E.ty t).size) (aL E ops os K ⟨put f d (.ptr (d.getD 0) clk 0 0), dF rows (d.getD 0) (some ⟨clk, t, (E.ty t).size, [l]⟩), clk + 1⟩)) := by
 show aL E ops (⟨d, .box t x, ty, pos, af, none⟩ :: os) K ⟨f, rows, clk⟩ = _
 rw [XB]
 simp only [aH, eM, fS, and_assoc]
theorem EY {t : TypeId} {l c : Operand} : go (aL E ops (⟨d, .makeSlice t l c, ty, pos, af, none⟩ :: os) K ⟨f, rows, clk⟩) = o7 (E.ty t) (aR f l) (aR f c) fun e n z x => aL E ops os K ⟨put f d (.own (d.getD 0) clk 0 x.toNat), dF rows (d.getD 0) (some ⟨clk, e, n, List.replicate x.toNat z⟩), clk + 1⟩ := yY
theorem TB {t t2 : TypeId} {x y : Operand} : go (aL E ops (⟨d, .call { callee := .builtin .append, args := ⟨[x, y]⟩, argTypes := ⟨[t, t2]⟩ }, ty, pos, af, none⟩ :: os) K ⟨f, rows, clk⟩) = aH (t2 = t ∨ V6 (E.ty t2) = true) (o9 (E.ty t) rows (aR f x) (aR f y) clk (d.getD 0) fun v rows clk => aL E ops os K ⟨put f d v, rows, clk⟩) := EU
theorem acD {fo : Operand} {args : Array Operand} {ts : Array TypeId} : go (aL E ops (⟨d, .call { callee := .value fo, args := args, argTypes := ts }, ty, pos, af, none⟩ :: os) K ⟨f, rows, clk⟩) = o8 E (aR f fo) (args.toList.map (aR f)) rows clk fun v rows clk => aL E ops os K ⟨put f d v, rows, clk⟩ := SZ
theorem H9 {g : FuncId} {b9 : Array Operand} : go (aL E ops (⟨d, .makeFunc (.func g) ⟨[]⟩ b9, ty, pos, af, none⟩ :: os) K ⟨f, rows, clk⟩) = aH (((b9.toList.map (aR f)).map (pz rows)).all eY = true ∧ dK rows ((b9.toList.map (aR f)).flatMap dD))
      (aL E ops os K ⟨put f d (.fn g ((b9.toList.map (aR f)).map (pz rows))), CJ rows ((b9.toList.map (aR f)).flatMap dD), clk⟩) := BS
theorem XR {op : Op} {j : Nat} {want : Bool} : go (aL E ops (⟨d, op, ty, pos, af, some (j, want)⟩ :: os) K ⟨f, rows, clk⟩) = nP (BV ops j) f want (aL E ops (⟨d, op, ty, pos, af, none⟩ :: os) K ⟨f, rows, clk⟩) (aL E ops os K ⟨put f d (.eA []), rows, clk⟩) := by
 rw [ET, ← HX]; rfl
theorem acE {x : Operand} : go (aN E ops clk k (⟨d, .move x, ty, pos, af, none⟩ :: os) K ⟨f, rows, bN, aO⟩) = go (aN E ops clk (k + 1) os K ⟨put f d (aR f x), rows, bN, aO⟩) := S3
theorem TC {x : Operand} : go (aN E ops clk k (⟨d, .assign x, ty, pos, af, none⟩ :: os) K ⟨f, rows, bN, aO⟩) = go (aN E ops clk (k + 1) os K ⟨put f d (aR f x), rows, bN, aO⟩) := HS
theorem acF {c a b : Operand} : go (aN E ops clk k (⟨d, .pick c a b, ty, pos, af, none⟩ :: os) K ⟨f, rows, bN, aO⟩) = gL (aR f c) true (aN E ops clk (k + 1) os K ⟨put f d (aR f a), rows, bN, aO⟩) (aN E ops clk (k + 1) os K ⟨put f d (aR f b), rows, bN, aO⟩) := S4
theorem ahE {op : BinOp} {t t2 : TypeId} {x y : Operand} : go (aN E ops clk k (⟨d, .binOp op t x y t2, ty, pos, af, none⟩ :: os) K ⟨f, rows, bN, aO⟩) = aU (fun v => D6 E op t (aR f x) (aR f y) v) fun v => aN E ops clk (k + 1) os K ⟨put f d v, rows, bN, aO⟩ := XC
theorem amG {op : UnOp} {t : TypeId} {x : Operand} : go (aN E ops clk k (⟨d, .unOp op t x, ty, pos, af, none⟩ :: os) K ⟨f, rows, bN, aO⟩) = aU (fun v => yun op (aR f x) v) fun v => aN E ops clk (k + 1) os K ⟨put f d v, rows, bN, aO⟩ := acr
theorem acG {s t : TypeId} {x : Operand} : go (aN E ops clk k (⟨d, .convert s t x, ty, pos, af, none⟩ :: os) K ⟨f, rows, bN, aO⟩) = aU (fun v => qY (E.ty s) (E.ty t) (aR f x) v) fun v => aN E ops clk (k + 1) os K ⟨put f d v, rows, bN, aO⟩ := S5
theorem MT {i : Nat} {x : Operand} : go (aN E ops clk k (⟨d, .extract x i, ty, pos, af, none⟩ :: os) K ⟨f, rows, bN, aO⟩) = sX i (aR f x) fun v => aN E ops clk (k + 1) os K ⟨put f d v, rows, bN, aO⟩ := by
 show aN E ops clk k (⟨d, .extract x i, ty, pos, af, none⟩ :: os) K ⟨f, rows, bN, aO⟩ = _
 rw [EP, CU]
theorem acH {t : TypeId} {x : Operand} : go (aN E ops clk k (⟨d, .load t x, ty, pos, af, none⟩ :: os) K ⟨f, rows, bN, aO⟩) = jP E t (dM .any ops k aO rows) (aR f x) fun v => aN E ops clk (k + 1) os K ⟨put f d v, rows, j2 k (a7 (aR f x)) bN, aO⟩ := MR
theorem XS {t : TypeId} {i : Nat} {x : Operand} : go (aN E ops clk k (⟨d, .field t x i, ty, pos, af, none⟩ :: os) K ⟨f, rows, bN, aO⟩) = i0 (E.ty t) i (aR f x) fun v => aN E ops clk (k + 1) os K ⟨put f d v, rows, bN, aO⟩ := H4
theorem EZ {t : TypeId} {i : Nat} {x : Operand} : go (aN E ops clk k (⟨d, .fieldAddr t x i, ty, pos, af, none⟩ :: os) K ⟨f, rows, bN, aO⟩) = c7 (E.ty t) (dM .any ops k aO rows) i (aR f x) fun v => aN E ops clk (k + 1) os K ⟨put f d v, rows, j2 k (a7 (aR f x)) bN, aO⟩ := xE
theorem E0 {t : TypeId} {x y : Operand} : go (aN E ops clk k (⟨d, .indexAddr t x y, ty, pos, af, none⟩ :: os) K ⟨f, rows, bN, aO⟩) = bS (E.ty t) (dM .any ops k aO rows) (aR f x) (aR f y) fun v => aN E ops clk (k + 1) os K ⟨put f d v, rows, j2 k (a7 (aR f x)) bN, aO⟩ := xF
theorem XT {t : TypeId} {x : Operand} {lo hi mx : Option Operand} : go (aN E ops clk k (⟨d, .slice t x lo hi mx, ty, pos, af, none⟩ :: os) K ⟨f, rows, bN, aO⟩) = eP (E.ty t) (dM .any ops k aO rows) (aR f x) (lo.map (aR f)) (hi.map (aR f)) (mx.map (aR f)) fun v => aN E ops clk (k + 1) os K ⟨put f d v, rows, j2 k (a7 (aR f x)) bN, aO⟩ := H5
theorem XU {t : TypeId} {parts : Array (Nat × Operand)} : go (aN E ops clk k (⟨d, .build t parts, ty, pos, af, none⟩ :: os) K ⟨f, rows, bN, aO⟩) = jW (E.ty t) (parts.toList.map fun x => (x.1, aR f x.2)) fun v => aN E ops clk (k + 1) os K ⟨put f d v, rows, bN, aO⟩ := by
 show aN E ops clk k (⟨d, .build t parts, ty, pos, af, none⟩ :: os) K ⟨f, rows, bN, aO⟩ = _
 rw [ML, wB]
theorem IA {x : Operand} : go (aN E ops clk k (⟨d, .nilCheck x, ty, pos, af, none⟩ :: os) K ⟨f, rows, bN, aO⟩) = rE (dM .any ops k aO rows) (aR f x) fun v => aN E ops clk (k + 1) os K ⟨put f d v, rows, j2 k (a7 (aR f x)) bN, aO⟩ := by show aN E ops clk k _ K _ = _; rw [BT, CQ]
theorem ahF {t : TypeId} {x : Operand} : go (aN E ops clk k (⟨d, .call { callee := .builtin .len, args := ⟨[x]⟩, argTypes := ⟨[t]⟩ }, ty, pos, af, none⟩ :: os) K ⟨f, rows, bN, aO⟩) = kF (E.ty t) (dM .any ops k aO rows) (aR f x) fun v => aN E ops clk (k + 1) os K ⟨put f d v, rows, j2 k (a7 (aR f x)) bN, aO⟩ := TA
theorem ahG {ts : Array TypeId} {x y : Operand} : go (aN E ops clk k (⟨d, .call { callee := .builtin .max, args := ⟨[x, y]⟩, argTypes := ts }, ty, pos, af, none⟩ :: os) K ⟨f, rows, bN, aO⟩) = aU (fun v => LF (aR f x) (aR f y) v) fun v => aN E ops clk (k + 1) os K ⟨put f d v, rows, bN, aO⟩ := XE
theorem ahH {ts : Array TypeId} {x y : Operand} : go (aN E ops clk k (⟨d, .call { callee := .builtin .min, args := ⟨[x, y]⟩, argTypes := ts }, ty, pos, af, none⟩ :: os) K ⟨f, rows, bN, aO⟩) = aU (fun v => LG (aR f x) (aR f y) v) fun v => aN E ops clk (k + 1) os K ⟨put f d v, rows, bN, aO⟩ := XF
theorem BX {t : TypeId} {len : Nat} {parts : Array (Nat × Operand)} : go (aN E ops clk k (⟨d, .buildSlice t len parts, ty, pos, af, none⟩ :: os) K ⟨f, rows, bN, aO⟩) = sW (E.ty t) (dM .any ops k aO rows) len (parts.toList.map fun x => (x.1, aR f x.2)) fun v => aN E ops clk (k + 1) os K ⟨put f d v, rows, bN, aO⟩ := by
 show aN E ops clk k (⟨d, .buildSlice t len parts, ty, pos, af, none⟩ :: os) K ⟨f, rows, bN, aO⟩ = _
 rw [xB, CT]
theorem XV {t : TypeId} {p x : Operand} : go (aN E ops clk k (⟨none, .store t p x, ty, pos, af, none⟩ :: os) K ⟨f, rows, bN, aO⟩) = i3 E t (dM .any ops k aO rows) (aR f p) (aR f x) fun id r => aH (yP .any ops k id bN) (aN E ops clk (k + 1) os K ⟨f, dF rows id (some r), j2 k (a7 (aR f p) ++ ((bQ (aR f x)).getD []).flatMap a7) bN, nN k id aO⟩) := H6
theorem XW {t : TypeId} : go (aN E ops clk k (⟨d, .alloc t, ty, pos, af, none⟩ :: os) K ⟨f, rows, bN, aO⟩) = aH ((E.ty t).known = true ∧ yP .any ops k (d.getD 0) bN) (aN E ops (clk + 1) (k + 1) os K ⟨put f d (.ptr (d.getD 0) clk 0 0), dF rows (d.getD 0) (some ⟨clk, t, (E.ty t).size, [(E.ty t).zero]⟩), bN, nN k (d.getD 0) aO⟩) := MN
theorem ahI {t : TypeId} {x : Operand} : go (aN E ops clk k (⟨d, .box t x, ty, pos, af, none⟩ :: os) K ⟨f, rows, bN, aO⟩) = aH ((E.ty t).known = true) (eM (bQ (aR f x)) fun l => aH (fS (fun _ => none) l ∧ l.length = (E.ty t).size ∧ yP .any ops k (d.getD 0) bN) (aN E ops (clk + 1) (k + 1) os K ⟨put f d (.ptr (d.getD 0) clk 0 0), dF rows (d.getD 0) (some ⟨clk, t, (E.ty t).size, [l]⟩), bN, nN k (d.getD 0) aO⟩)) := by
 show aN E ops clk k (⟨d, .box t x, ty, pos, af, none⟩ :: os) K ⟨f, rows, bN, aO⟩ = _
 rw [XH]
 simp only [aH, eM, fS]
theorem E1 {t : TypeId} {l c : Operand} : go (aN E ops clk k (⟨d, .makeSlice t l c, ty, pos, af, none⟩ :: os) K ⟨f, rows, bN, aO⟩) = o7 (E.ty t) (aR f l) (aR f c) fun e n z x => aH (yP .any ops k (d.getD 0) bN) (aN E ops (clk + 1) (k + 1) os K ⟨put f d (.own (d.getD 0) clk 0 x.toNat), dF rows (d.getD 0) (some ⟨clk, e, n, List.replicate x.toNat z⟩), bN, nN k (d.getD 0) aO⟩) := y4
def rF (t : TI) (rows : Rows) (x y : PV) (clk d : Nat) (K : PV → Nat → Row → Prop) : Prop :=
 match t with
 | .slice e n b _ => jH rows y fun l => aH (bF n l) (match x with
  | .nil => aH (l.length ≤ room ∧ l.length * b ≤ room) (K (.own d clk 0 l.length) d ⟨clk, e, n, l⟩)
  | .own id ver off len => bK (rows id) ver fun r => aH (off = 0 ∧ len = r.els.length ∧ r.e = e ∧ r.size = n) (aH (len + l.length ≤ room ∧ (len + l.length) * b ≤ room) (K (.own id clk 0 (len + l.length)) id ⟨clk, e, n, r.els ++ l⟩))
  | _ => False)
 | _ => False
@[congr] theorem afl {t t' : TI} {rows rows' : Rows} {x x' y y' : PV} {clk d : Nat} {K : PV → Nat → Row → Prop} (h1 : t = t') (h2 : rows = rows') (h3 : x = x') (h4 : y = y') :
  rF t rows x y clk d K = rF t' rows' x' y' clk d K := by rw [h1, h2, h3, h4]
@[simp] theorem akG {e : TypeId} {n b : Nat} {z : List PV} {rows : Rows} {y : PV} {clk d : Nat} {K : PV → Nat → Row → Prop} : rF (.slice e n b z) rows .nil y clk d K = jH rows y fun l => aH (bF n l) (aH (l.length ≤ room ∧ l.length * b ≤ room) (K (.own d clk 0 l.length) d ⟨clk, e, n, l⟩)) := rfl
@[simp] theorem akH {e : TypeId} {n b : Nat} {z : List PV} {rows : Rows} {y : PV} {clk d id ver off len : Nat} {K : PV → Nat → Row → Prop} : rF (.slice e n b z) rows (.own id ver off len) y clk d K = jH rows y fun l => aH (bF n l) (bK (rows id) ver fun r => aH (off = 0 ∧ len = r.els.length ∧ r.e = e ∧ r.size = n) (aH (len + l.length ≤ room ∧ (len + l.length) * b ≤ room) (K (.own id clk 0 (len + l.length)) id ⟨clk, e, n, r.els ++ l⟩))) := rfl
@[simp] theorem amH (t : TI) (r : Rows) (x y : PV) (c d : Nat) (K : PV → Nat → Row → Prop) : go (rF t r x y c d K) = rF t r x y c d K := rfl
theorem XX {t : TI} {rows : Rows} {x y : PV} {clk d : Nat} {K : PV → Nat → Row → Prop} : (∃ v id r, o0 t rows x y clk d v (some (id, r)) ∧ K v id r) = rF t rows x y clk d K := by
 cases t with
 | slice e n b z =>
  simp only [rF, o0]
  rw [← PY]
  apply propext
  cases x with
  | nil =>
   simp only [aH, bF]
   constructor
   ·rintro ⟨v, id, r, ⟨l, h1, h2, h3, h4, rfl, h5⟩, h6⟩
    cases h5
    exact ⟨l, h1, h2, ⟨h3, h4⟩, h6⟩
   ·rintro ⟨l, h1, h2, ⟨h3, h4⟩, h6⟩
    exact ⟨_, _, _, ⟨l, h1, h2, h3, h4, rfl, rfl⟩, h6⟩
  | own id ver off len =>
   simp only [aH, bF, bK]
   constructor
   ·rintro ⟨v, iS, r', ⟨l, h1, h2, r, h3, h4, h5, h6, h7, h8, h9, h10, rfl, h11⟩, h12⟩
    cases h11
    exact ⟨l, h1, h2, r, h3, h4, ⟨h5, h6, h7, h8⟩, ⟨h9, h10⟩, h12⟩
   ·rintro ⟨l, h1, h2, r, h3, h4, ⟨h5, h6, h7, h8⟩, ⟨h9, h10⟩, h12⟩
    exact ⟨_, _, _, ⟨l, h1, h2, r, h3, h4, h5, h6, h7, h8, h9, h10, rfl, rfl⟩, h12⟩
  | _ => simp [aH]
 | _ => simp [rF, o0]
theorem TD {t t2 : TypeId} {x y : Operand} : go (aN E ops clk k (⟨d, .call { callee := .builtin .append, args := ⟨[x, y]⟩, argTypes := ⟨[t, t2]⟩ }, ty, pos, af, none⟩ :: os) K ⟨f, rows, bN, aO⟩) =
  aH (t2 = t ∨ V6 (E.ty t2) = true) (rF (E.ty t) (dM .any ops k aO rows) (aR f x) (aR f y) clk (d.getD 0) fun v id r => aH (yP .any ops k id bN) (aN E ops (clk + 1) (k + 1) os K ⟨put f d v, dF rows id (some r), j2 k (a7 (aR f x) ++ a7 (aR f y)) bN, nN k id aO⟩)) := by
 show aN E ops clk k (⟨d, .call { callee := .builtin .append, args := ⟨[x, y]⟩, argTypes := ⟨[t, t2]⟩ }, ty, pos, af, none⟩ :: os) K ⟨f, rows, bN, aO⟩ = _
 rw [HT]
 congr 1
 exact XX
theorem XY {s : Tmp} {args : Array Operand} {ts : Array TypeId} : go (aN E ops clk k (⟨d, .call { callee := .value (.tmp s), args := args, argTypes := ts }, ty, pos, af, none⟩ :: os) K ⟨f, rows, bN, aO⟩) = nO E (f s) (args.toList.map (aR f)) (dM .any ops k aO rows) fun v => aN E ops clk (k + 1) os K ⟨put f d v, rows, bN, aO⟩ := CO rfl
def qB (P : Program) (g : FuncId) (args : List PV) (c : Prop) (K : TypeId → Nat → List (List PV) → Prop) : Prop := ∃ e n els, (args.all eY = true ∧ gF P g args e n els ∧ c) ∧ K e n els
@[congr] theorem abJ {P : Program} {g : FuncId} {args HR : List PV} {c c' : Prop} {K : TypeId → Nat → List (List PV) → Prop} (h : args = HR) (hc : c = c') : qB P g args c K = qB P g HR c' K := by rw [h, hc]
@[simp] theorem ahJ {P : Program} {g : FuncId} {args : List PV} {c : Prop} {K : TypeId → Nat → List (List PV) → Prop} : go (qB P g args c K) = qB P g args c K := rfl
theorem CW {P : Program} {g : FuncId} {args : List PV} {c : Prop} {K : TypeId → Nat → List (List PV) → Prop} {e : TypeId} {n : Nat} {els : List (List PV)} (h : gF P g args e n els) (hp : args.all eY = true) (hc : c) (hK : go (K e n els)) : qB P g args c K := ⟨e, n, els, ⟨hp, h, hc⟩, hK⟩
theorem XZ {g : FuncId} {args : Array Operand} {ts : Array TypeId} : go (aN E ops clk k (⟨d, .call { callee := .value (.func g), args := args, argTypes := ts }, ty, pos, af, none⟩ :: os) K ⟨f, rows, bN, aO⟩) =
  if E.writes g = true then qB E.P g (args.toList.map (aR f)) (yP .any ops k (d.getD 0) bN) (fun e n els => aN E ops (clk + 1) (k + 1) os K ⟨put f d (.own (d.getD 0) clk 0 els.length), dF rows (d.getD 0) (some ⟨clk, e, n, els⟩), bN, nN k (d.getD 0) aO⟩)
  else nO E (.fn g []) (args.toList.map (aR f)) (dM .any ops k aO rows) fun v => aN E ops clk (k + 1) os K ⟨put f d v, rows, bN, aO⟩ := by
 split
 ·rename_i hw; exact MO hw
 ·rename_i hw; exact CO (by simpa [cV] using hw)
theorem IB {g : FuncId} {b9 : Array Operand} : go (aN E ops clk k (⟨d, .makeFunc (.func g) ⟨[]⟩ b9, ty, pos, af, none⟩ :: os) K ⟨f, rows, bN, aO⟩) = aH ((b9.toList.map fun x => aR f x).all eY = true) (aN E ops clk (k + 1) os K ⟨put f d (.fn g (b9.toList.map fun x => aR f x)), rows, bN, aO⟩) := BU
theorem X0 {op : Op} {j : Nat} {want : Bool} : go (aN E ops clk k (⟨d, op, ty, pos, af, some (j, want)⟩ :: os) K ⟨f, rows, bN, aO⟩) = nP (BV ops j) f want (aN E ops clk k (⟨d, op, ty, pos, af, none⟩ :: os) K ⟨f, rows, bN, aO⟩) (aN E ops clk (k + 1) os K ⟨put f d (.eA []), rows, bN, aO⟩) := by
 rw [ET, ← HY]; rfl
theorem X1 {σ : PS} : go (aL E ops [] K σ) = K σ := rfl
theorem ahK {st : ST} : go (aN E ops clk k [] K st) = go (K ⟨st.f, st.rows, clk⟩) := rfl
@[simp] theorem P4 {s : Nat} : aR f (.tmp s) = f s := rfl
@[simp] theorem amJ {g : FuncId} : aR f (.func g) = .fn g [] := rfl
@[simp] theorem TE {v : Value} : aR f (.const v) = mE v := rfl
end
@[simp] theorem ahL {k : IntKind} {n : Int} : mE (.int k n) = .int k n := rfl
@[simp] theorem afm {b : Bool} : mE (.bool b) = .bool b := rfl
@[simp] theorem MU {s : ByteArray} : mE (.string s) = .str s := rfl
@[simp] theorem afn : mE (.pointer none) = .gZ := rfl
@[simp] theorem afo : iA (.pointer none) = .gZ := rfl
@[simp] theorem ahM : mE (.slice none 0 0) = .nil := rfl
@[simp] theorem ahN {cs : List Value} : mE (.agg ⟨cs⟩) = .ag (cs.map iA) := rfl
@[simp] theorem ahO {k : IntKind} {n : Int} : iA (.int k n) = .int k n := rfl
@[simp] theorem afp {b : Bool} : iA (.bool b) = .bool b := rfl
@[simp] theorem ahP {s : ByteArray} : iA (.string s) = .str s := rfl
@[simp] theorem ahQ : iA (.slice none 0 0) = .nil := rfl
@[simp] theorem amK (R K : PV → Prop) : go (aU R K) = aU R K := rfl
@[simp] theorem amL (p : PV) (w : Bool) (A B : Prop) : go (stepG p w A B) = stepG p w A B := rfl
@[simp] theorem amM (p : PV) (w : Bool) (A B : Prop) : go (gL p w A B) = gL p w A B := rfl
@[simp] theorem amN (A B : Prop) : go (aH A B) = aH A B := rfl
@[simp] theorem amO (P : Program) (g : FuncId) (l : List PV) (K : PV → Prop) : go (sS P g l K) = sS P g l K := rfl
@[simp] theorem ahR (o : Option Row) (v : Nat) (K : Row → Prop) : go (bK o v K) = bK o v K := rfl
@[simp] theorem asn (l : List (List PV)) (i : Nat) (K : List PV → Prop) : go (CP l i K) = CP l i K := rfl
@[simp] theorem aso (t : TI) (l : List PV) (j : Nat) (K : PV → Prop) : go (vW t l j K) = vW t l j K := rfl
@[simp] theorem akJ (E : Env) (t : TypeId) (r : Rows) (p : PV) (K : PV → Prop) : go (jP E t r p K) = jP E t r p K := rfl
@[simp] theorem ahS (t : TI) (i : Nat) (x : PV) (K : PV → Prop) : go (i0 t i x K) = i0 t i x K := rfl
@[simp] theorem aqe (p : Nat × Nat × Bool) (l : List PV) (K : PV → Prop) : go (ER p l K) = ER p l K := rfl
@[simp] theorem amP (r : Rows) (x : PV) (K : PV → Prop) : go (rE r x K) = rE r x K := rfl
@[simp] theorem X3 (t : TI) (r : Rows) (i : Nat) (x : PV) (K : PV → Prop) : go (c7 t r i x K) = c7 t r i x K := rfl
@[simp] theorem X4 (t : TI) (r : Rows) (x y : PV) (K : PV → Prop) : go (bS t r x y K) = bS t r x y K := rfl
@[simp] theorem asp (d : Nat) (o : Option PV) (K : Nat → Prop) : go (vY d o K) = vY d o K := rfl
@[simp] theorem ahT (t : TI) (r : Rows) (x : PV) (a b c : Option PV) (K : PV → Prop) : go (eP t r x a b c K) = eP t r x a b c K := rfl
@[simp] theorem amQ (t : TI) (r : Rows) (x : PV) (K : PV → Prop) : go (kF t r x K) = kF t r x K := rfl
@[simp] theorem ahU (E : Env) (t : TypeId) (r : Rows) (p x : PV) (K : Nat → Row → Prop) : go (i3 E t r p x K) = i3 E t r p x K := rfl
@[simp] theorem amR (r : Rows) (y : PV) (K : List (List PV) → Prop) : go (jH r y K) = jH r y K := rfl
@[simp] theorem amS (t : TI) (r : Rows) (x y : PV) (c d : Nat) (K : PV → Rows → Nat → Prop) : go (o9 t r x y c d K) = o9 t r x y c d K := rfl
@[simp] theorem amT (t : TI) (x y : PV) (K : TypeId → Nat → List PV → Int → Prop) : go (o7 t x y K) = o7 t x y K := rfl
@[simp] theorem akK (E : Env) (p : PV) (l : List PV) (r : Rows) (clk : Nat) (K : PV → Rows → Nat → Prop) : go (o8 E p l r clk K) = o8 E p l r clk K := rfl
@[simp] theorem amU (P : Program) (g : FuncId) (l : List PV) (r : Rows) (clk : Nat) (K : PV → Rows → Nat → Prop) : go (vN P g l r clk K) = vN P g l r clk K := rfl
@[simp] theorem akL (E : Env) (p : PV) (l : List PV) (r : Rows) (K : PV → Prop) : go (nO E p l r K) = nO E p l r K := rfl
@[simp] theorem amV {fs : List (Nat × Nat × Bool)} {ps : List (Nat × PV)} {z : List PV} {K : List PV → Prop} : go (kU fs ps z K) = kU fs ps z K := rfl
@[simp] theorem ahV {t : TI} {ps : List (Nat × PV)} {K : PV → Prop} : go (jW t ps K) = jW t ps K := rfl
@[simp] theorem akM {n k : Nat} {ps : List (Nat × PV)} {K : List (List PV) → Prop} : go (iC n k ps K) = iC n k ps K := rfl
@[simp] theorem amW {t : TI} {rows : Rows} {len : Nat} {ps : List (Nat × PV)} {K : PV → Prop} : go (sW t rows len ps K) = sW t rows len ps K := rfl
@[simp] theorem amX {i : Nat} {x : PV} {K : PV → Prop} : go (sX i x K) = sX i x K := rfl
@[simp] theorem aqf {α : Type} (o : Option α) (K : α → Prop) : go (eM o K) = eM o K := rfl
@[simp] theorem au9 {α : Type} (p : α → Prop) : go (∃ x, p x) = ∃ x, go (p x) := rfl
@[simp] theorem amY : go False = False := rfl
@[simp] theorem ava {p : Prop} : go (go p) = go p := rfl
@[simp] theorem afq {t : PV} {K : PV → Prop} : aU (fun v => v = t) K = go (K t) := iZ
@[simp] theorem asq {t : PV} {K : PV → Prop} : aU (fun v => t = v) K = go (K t) := SS
@[simp] theorem acI {B : Prop} : aH True B = go B := L8
@[simp] theorem avb {A B : Prop} : stepG (.bool true) true A B = go A := WZ
@[simp] theorem avc {A B : Prop} : stepG (.bool true) false A B = go B := W1
@[simp] theorem avd {A B : Prop} : stepG (.bool false) true A B = go B := W2
@[simp] theorem ave {A B : Prop} : stepG (.bool false) false A B = go A := W3
@[simp] theorem avf {w : Bool} {A B : Prop} : stepG (.eA []) w A B = go B := W4
@[simp] theorem avg {A B : Prop} : gL (.bool true) true A B = go A := WW
@[simp] theorem avh {A B : Prop} : gL (.bool true) false A B = go B := WX
@[simp] theorem avi {A B : Prop} : gL (.bool false) true A B = go B := WY
@[simp] theorem avj {A B : Prop} : gL (.bool false) false A B = go A := W5
theorem gA {c B : Prop} (h : c) : aH c B = go B := by simp [aH, go, h]
attribute [simp] iJ WV yV W6 ahk L9 EN P3 CV acB XL amF EV MS acC XM EW EX XN XO H7 H8 IA ahA ahB ahC BW XP XQ ahD EY TB acD H9 XR acE TC acF ahE amG acG MT acH XS EZ E0 XT XU ahF ahG ahH BX XV XW ahI E1 TD XY XZ IB X0 X1 ahK
attribute [simp] V6 D6 yun qY rJ LF LG o7 o8 nO qX TI.known TI.size TI.zero TI.agg WO aco HN room
theorem B2 {E : Env} {ops : List Oper} {K : PS → Prop} {f : Nat → PV} {rows : Rows} {clk : Nat} : fB E 0 ops K ⟨f, rows, clk⟩ = aN E ops clk 0 ops K ⟨f, rows, fun _ _ => False, fun _ _ => False⟩ := by simp [fB]
@[simp] theorem akN {b : Bool} : eY (.bool b) = true := rfl
@[simp] theorem ahW {b : Bool} : bY (.bool b) = true := rfl
@[simp] theorem akO {b : Bool} : a7 (.bool b) = [] := rfl
@[simp] theorem akP {rows : Rows} {b : Bool} : gS rows (.bool b) = True := rfl
@[simp] theorem afr {b : Bool} : bQ (.bool b) = some [.bool b] := rfl
@[simp] theorem afs {b : Bool} : dY (.bool b) = some [.bool b] := rfl
@[simp] theorem amZ {k : IntKind} {n : Int} : eY (.int k n) = true := rfl
@[simp] theorem akQ {k : IntKind} {n : Int} : bY (.int k n) = true := rfl
@[simp] theorem am0 {k : IntKind} {n : Int} : a7 (.int k n) = [] := rfl
@[simp] theorem am1 {rows : Rows} {k : IntKind} {n : Int} : gS rows (.int k n) = True := rfl
@[simp] theorem ahX {k : IntKind} {n : Int} : bQ (.int k n) = some [.int k n] := rfl
@[simp] theorem ahY {k : IntKind} {n : Int} : dY (.int k n) = some [.int k n] := rfl
@[simp] theorem am2 {s : ByteArray} : eY (.str s) = true := rfl
@[simp] theorem akR {s : ByteArray} : bY (.str s) = true := rfl
@[simp] theorem am3 {s : ByteArray} : a7 (.str s) = [] := rfl
@[simp] theorem am4 {rows : Rows} {s : ByteArray} : gS rows (.str s) = True := rfl
@[simp] theorem ahZ {s : ByteArray} : bQ (.str s) = some [.str s] := rfl
@[simp] theorem ah0 {s : ByteArray} : dY (.str s) = some [.str s] := rfl
@[simp] theorem akS  : eY .gZ = true := rfl
@[simp] theorem ah1  : bY .gZ = true := rfl
@[simp] theorem akT  : a7 .gZ = [] := rfl
@[simp] theorem akU  : dD .gZ = [] := rfl
@[simp] theorem aqg {rows : Rows} : fz rows .gZ = .gZ := rfl
@[simp] theorem aqh {rows : Rows} : pz rows .gZ = .gZ := rfl
@[simp] theorem akV {rows : Rows}  : gS rows .gZ = True := rfl
@[simp] theorem aft  : bQ .gZ = some [.gZ] := rfl
@[simp] theorem afu  : dY .gZ = some [.gZ] := rfl
@[simp] theorem am5  : eY .nil = true := rfl
@[simp] theorem akW  : bY .nil = true := rfl
@[simp] theorem am6  : a7 .nil = [] := rfl
@[simp] theorem am7 {rows : Rows}  : gS rows .nil = True := rfl
@[simp] theorem ah2  : bQ .nil = some [.nil] := rfl
@[simp] theorem ah3  : dY .nil = some [.nil] := rfl
@[simp] theorem aqi {l : List (List PV)} : eY (.sl l) = true := rfl
@[simp] theorem am8 {l : List (List PV)} : bY (.sl l) = true := rfl
@[simp] theorem aqj {l : List (List PV)} : a7 (.sl l) = [] := rfl
@[simp] theorem aqk {rows : Rows} {l : List (List PV)} : gS rows (.sl l) = True := rfl
@[simp] theorem akX {l : List (List PV)} : bQ (.sl l) = some [.sl l] := rfl
@[simp] theorem akY {l : List (List PV)} : dY (.sl l) = some [.sl l] := rfl
@[simp] theorem am9 {l : List (List PV)} : eY (.iV l) = true := rfl
@[simp] theorem akZ {l : List (List PV)} : bY (.iV l) = true := rfl
@[simp] theorem ana {l : List (List PV)} : a7 (.iV l) = [] := rfl
@[simp] theorem anb {rows : Rows} {l : List (List PV)} : gS rows (.iV l) = True := rfl
@[simp] theorem ah4 {l : List (List PV)} : bQ (.iV l) = some [.iV l] := rfl
@[simp] theorem ah5 {l : List (List PV)} : dY (.iV l) = some [.iV l] := rfl
@[simp] theorem acJ {l : List PV} : eY (.rd l) = true := rfl
@[simp] theorem X5 {l : List PV} : bY (.rd l) = true := rfl
@[simp] theorem acK {l : List PV} : a7 (.rd l) = [] := rfl
@[simp] theorem aql {rows : Rows} {l : List PV} : gS rows (.rd l) = True := rfl
@[simp] theorem ak0 {l : List PV} : bQ (.rd l) = some [.rd l] := rfl
@[simp] theorem ak1 {l : List PV} : dY (.rd l) = some [.rd l] := rfl
@[simp] theorem aqm {f : FuncId} {l : List PV} : eY (.fn f l) = true := rfl
@[simp] theorem anc {f : FuncId} {l : List PV} : bY (.fn f l) = true := rfl
@[simp] theorem aqn {f : FuncId} {l : List PV} : a7 (.fn f l) = [] := rfl
@[simp] theorem aqo {rows : Rows} {f : FuncId} {l : List PV} : gS rows (.fn f l) = True := rfl
@[simp] theorem ak2 {f : FuncId} {l : List PV} : bQ (.fn f l) = some [.fn f l] := rfl
@[simp] theorem ak3 {f : FuncId} {l : List PV} : dY (.fn f l) = some [.fn f l] := rfl
@[simp] theorem aqp {l : List PV} : eY (.ag l) = l.all bY := rfl
@[simp] theorem ane {l : List PV} : eY (.eA l) = true := rfl
@[simp] theorem ak4 {l : List PV} : bQ (.ag l) = some l := rfl
@[simp] theorem ak5 {l : List PV} : dY (.ag l) = some l := rfl
@[simp] theorem anf {id v o l : Nat} : a7 (.own id v o l) = [id] := rfl
@[simp] theorem ang {id v o l : Nat} : a7 (.ptr id v o l) = [id] := rfl
@[simp] theorem ah6 {id v o l : Nat} : bQ (.own id v o l) = some [.own id v o l] := rfl
@[simp] theorem ah7 {id v o l : Nat} : bQ (.ptr id v o l) = some [.ptr id v o l] := rfl
def rowAt (o : Option Row) (ver : Nat) : Prop := ∃ r, o = some r ∧ r.ver = ver
@[simp] theorem ah8 {r : Row} {ver : Nat} : rowAt (some r) ver = (r.ver = ver) := by simp [rowAt]
@[simp] theorem anh {rows : Rows} {id v o l : Nat} : gS rows (.own id v o l) = rowAt (rows id) v := rfl
@[simp] theorem ani {rows : Rows} {id v o l : Nat} : gS rows (.ptr id v o l) = rowAt (rows id) v := rfl
@[simp] theorem ak6 {e l : List PV} {j : Nat} : iK [e] 0 j l = [e.take j ++ l ++ e.drop (j + l.length)] := by simp [iK]
@[simp] theorem ak7 {e : List PV} {n : Nat} : sV [e] 0 n = (n ≤ e.length) := by simp [sV]
@[simp] theorem ak8 {E : Env} {σ : PS} {t : Tmp} {rs : List ResultVar} {K : List PV → Prop} : oB E σ (.tmp t :: rs) K = oB E σ rs fun vs => K (σ.f t :: vs) := rfl
@[simp] theorem ak9 {E : Env} {σ : PS} {K : List PV → Prop} : oB E σ [] K = K [] := rfl
@[simp] theorem ah9 {E : Env} {σ : PS} {a : Tmp} {t : TypeId} {rs : List ResultVar} {K : List PV → Prop} : oB E σ (.cell a t :: rs) K = jP E t σ.rows (σ.f a) fun v => oB E σ rs fun vs => K (v :: vs) := by
 show (∃ v, qW E t σ.rows (σ.f a) v ∧ oB E σ rs fun vs => K (v :: vs)) = _
 rw [← rQ]; rfl
@[simp] theorem acL {E : Env} {ops : List Oper} {K : PS → Prop} {f : Nat → PV} {rows : Rows} {clk : Nat} : go (fB E 0 ops K ⟨f, rows, clk⟩) = go (aN E ops clk 0 ops K ⟨f, rows, fun _ _ => False, fun _ _ => False⟩) := B2
theorem wrap_i64 {n : Int} (h1 : -9223372036854775808 ≤ n) (h2 : n < 9223372036854775808) : IntKind.i64.wrap n = n := by
 have e : IntKind.i64.wrap n = if n % 18446744073709551616 ≥ 9223372036854775808 then n % 18446744073709551616 - 18446744073709551616 else n % 18446744073709551616 := by
  simp [IntKind.wrap, IntKind.bits, IntKind.signed]
 rw [e]
 split <;> omega
theorem wrap_u64 {n : Int} (h1 : 0 ≤ n) (h2 : n < 18446744073709551616) : IntKind.u64.wrap n = n := by
 simp only [IntKind.wrap, IntKind.bits, IntKind.signed, Bool.false_and, Bool.false_eq_true, if_false]
 omega
theorem wrap_u32 {n : Int} (h1 : 0 ≤ n) (h2 : n < 4294967296) : IntKind.u32.wrap n = n := by
 simp only [IntKind.wrap, IntKind.bits, IntKind.signed, Bool.false_and, Bool.false_eq_true, if_false]
 omega
theorem wA : (∀ n : Int, -9223372036854775808 ≤ n → n < 9223372036854775808 → IntKind.i64.wrap n = n) ∧ (∀ n : Int, 0 ≤ n → n < 18446744073709551616 → IntKind.u64.wrap n = n) ∧ (∀ n : Int, 0 ≤ n → n < 4294967296 → IntKind.u32.wrap n = n) ∧
  (∀ a b : Int, 0 ≤ a → a.tdiv b = a / b) ∧ (∀ a b : Int, 0 ≤ a → a.tmod b = a % b) := ⟨fun _ => wrap_i64, fun _ => wrap_u64, fun _ => wrap_u32, fun _ _ h => Int.tdiv_eq_ediv_of_nonneg h, fun _ _ h => Int.tmod_eq_emod_of_nonneg h⟩
theorem gw : (∀ {c B : Prop}, c → aH c B = go B) ∧ (∀ n : Int, -9223372036854775808 ≤ n → n < 9223372036854775808 → IntKind.i64.wrap n = n) ∧ (∀ n : Int, 0 ≤ n → n < 18446744073709551616 → IntKind.u64.wrap n = n) ∧ (∀ n : Int, 0 ≤ n → n < 4294967296 → IntKind.u32.wrap n = n) ∧
  (∀ a b : Int, 0 ≤ a → a.tdiv b = a / b) ∧ (∀ a b : Int, 0 ≤ a → a.tmod b = a % b) := ⟨gA, wA⟩
theorem wrap_u8 {n : Int} (h1 : 0 ≤ n) (h2 : n < 256) : IntKind.u8.wrap n = n := by
 simp only [IntKind.wrap, IntKind.bits, IntKind.signed, Bool.false_and, Bool.false_eq_true, if_false]
 omega
theorem iL {n : Int} : IntKind.u64.wrap n = n % 18446744073709551616 := by
 simp only [IntKind.wrap, IntKind.bits, IntKind.signed, Bool.false_and, Bool.false_eq_true, if_false]
 rfl
theorem wrap_u32' {n : Int} : IntKind.u32.wrap n = n % 4294967296 := by
 simp only [IntKind.wrap, IntKind.bits, IntKind.signed, Bool.false_and, Bool.false_eq_true, if_false]
 rfl
section
variable {E : Env} {n : Nat} {tl : Nat → Nat} {Q : PX → PS → Prop} {σ : PS}
theorem W.cA {id : Nat} {ops : List Oper} (h : ∀ K : PS → Prop, (∀ σ, Q .normal σ → K σ) → go (aL E ops ops K σ)) : W E n tl (.region id ops.toArray false) Q σ := W.HO h
theorem W.MV {id : Nat} {ops : List Oper} (h : ∀ K : PS → Prop, (∀ σ, Q .normal σ → K σ) → go (fB E (tl id) ops K σ)) : W E n tl (.region id ops.toArray true) Q σ := W.WS h
theorem W.dE {id : Nat} {ops : List Oper} {y : Code} (h : ∀ K : PS → Prop, (∀ σ, W E n tl y Q σ → K σ) → go (aL E ops ops K σ)) : W E n tl (.seq (.region id ops.toArray false) y) Q σ := W.L7 h
theorem W.X6 {id : Nat} {ops : List Oper} {y : Code} (h : ∀ K : PS → Prop, (∀ σ, W E n tl y Q σ → K σ) → go (fB E (tl id) ops K σ)) : W E n tl (.seq (.region id ops.toArray true) y) Q σ := W.WT h
end
section
variable {E : Env} {n : Nat} {tl : Nat → Nat} {Q : PX → PS → Prop} {σ : PS}
theorem W.bB {c : Code} (I : Nat → PS → Prop) (k : Nat) (h0 : ∃ σ0, Gh n σ σ0 ∧ I k σ0) (h1 : ∀ k σ, I k σ → W E n tl c (BP (fun σ' => ∃ m σ'', Gh n σ' σ'' ∧ m < k ∧ I m σ'') Q) σ) : W E n tl (.loop c) Q σ := by
 obtain ⟨σ0, hg, h0⟩ := h0
 refine W.ghost hg ?_
 refine W.loop (fun k σ => ∃ σ', Gh n σ σ' ∧ I k σ') k ⟨σ0, fun _ _ _ _ _ h => h, h0⟩ ?_
 rintro k σ ⟨σ', hg, hI⟩
 refine W.ghost hg (W.mono (h1 k σ' hI) fun x τ hx => ?_)
 cases x with
 | normal => obtain ⟨m, σ'', h2, h3, h4⟩ := hx; exact ⟨m, h3, σ'', h2, h4⟩
 | exit id => exact hx
 | ret => exact hx
theorem Gh.refl : Gh n σ σ := fun _ _ _ _ _ h => h
theorem W.X7 {c : Operand} {t e : Code} (b : Prop) [Decidable b] (hc : aR σ.f c = .bool (decide b)) (h1 : b → W E n tl t Q σ) (h2 : ¬ b → W E n tl e Q σ) : W E n tl (.cond c t e) Q σ := W.cond ⟨_, hc, fun h => h1 (of_decide_eq_true h), fun h => h2 (of_decide_eq_false h)⟩
theorem W.ghf {f : Nat → PV} {rows : Rows} {clk : Nat} {c : Code} (l : List (Nat × PV)) (hl : ∀ p ∈ l, f p.1 = p.2) (h : W E n tl c Q ⟨fa l, rows, clk⟩) : W E n tl c Q ⟨f, rows, clk⟩ := by
 have := aC (f := f) (rows := rows) (clk := clk) n (l.map (·.1))
 have e : ((l.map (·.1)).map fun i => (i, f i)) = l := by
  rw [List.map_map]
  conv => rhs; rw [← List.map_id l]
  exact List.map_congr_left fun p hp => by simp [hl p hp]
 rw [e] at this
 exact W.ghost this h
theorem Gh.fr {f : Nat → PV} {rows : Rows} {clk : Nat} (l : List (Nat × PV)) (hl : ∀ p ∈ l, f p.1 = p.2) : Gh n ⟨f, rows, clk⟩ ⟨fa l, rows, clk⟩ := by
 have := aC (f := f) (rows := rows) (clk := clk) n (l.map (·.1))
 have e : ((l.map (·.1)).map fun i => (i, f i)) = l := by
  rw [List.map_map]
  conv => rhs; rw [← List.map_id l]
  exact List.map_congr_left fun p hp => by simp [hl p hp]
 rw [e] at this
 exact this
end
theorem aB {E : Env} {CN : FuncId} {fn : Func} {code : Code} (tl : Nat → Nat) {args : List PV} {r : PV} (l : List (Nat × PV)) (h1 : E.P.funcs[CN]? = some fn) (h2 : fn.body = some code) (h3 : (fn.name == "runtime.NumGoroutine") = false)
  (fI : dZ E fn.ntmps tl code = true) (fM : args.length ≤ fn.ntmps) (hl : ∀ p ∈ l, args.getD p.1 .undef = p.2) (h : W E fn.ntmps tl code (aco E fn.results.toList r) ⟨fa l, fun _ => none, 0⟩) : aK E.P CN args r :=
 WU tl h1 h2 h3 fI fM (W.ghf l (by simpa using hl) h)
end Pm
namespace Pm
@[simp] theorem aqq {a : Int} : Int.fdiv a 4294967296 = a / 4294967296 := Int.fdiv_eq_ediv_of_nonneg a (by decide)
@[simp] theorem aqr {a : Int} : Int.fdiv a 9223372036854775808 = a / 9223372036854775808 := Int.fdiv_eq_ediv_of_nonneg a (by decide)
attribute [simp] Go.IntKind.bits
end Pm
namespace Pm
open Go Go.RowKit
section
variable {E : Env} {n : Nat} {tl : Nat → Nat} {Q : PX → PS → Prop} {σ : PS}
theorem W.fO {x y : Code} (J : PS → Prop) (h : W E n tl x (BP (fun σ => ∃ σ', Gh n σ σ' ∧ J σ') Q) σ) (hy : ∀ σ, J σ → W E n tl y Q σ) : W E n tl (.seq x y) Q σ :=
 W.seq (W.mono h fun x σ hx => by
  cases x with
  | normal => obtain ⟨σ', hg, hJ⟩ := hx; exact W.ghost hg (hy σ' hJ)
  | exit id => exact hx
  | ret => exact hx)
def MW (J : PS → Prop) (Q : PX → PS → Prop) : PX → PS → Prop
 | .normal, σ => J σ
 | .exit id, σ => Q (.exit id) σ
 | .ret, σ => Q .ret σ
theorem W.fT {id : Nat} {x y : Code} (J : PS → Prop) (h : W E n tl x (BQ id (MW (fun σ => ∃ σ', Gh n σ σ' ∧ J σ') Q)) σ) (hy : ∀ σ, J σ → W E n tl y Q σ) : W E n tl (.seq (.block id x) y) Q σ :=
 W.seq (W.block (W.mono h fun x σ hx => by
  cases x with
  | normal => obtain ⟨σ', hg, hJ⟩ := hx; exact W.ghost hg (hy σ' hJ)
  | exit j =>
   simp only [BQ] at hx ⊢
   split
   ·rename_i hj; rw [if_pos hj] at hx; obtain ⟨σ', hg, hJ⟩ := hx; exact W.ghost hg (hy σ' hJ)
   ·rename_i hj; rw [if_neg hj] at hx; exact hx
  | ret => exact hx))
theorem W.fU {id : Nat} {ops : List Oper} {y : Code} (J : PS → Prop) (h : ∀ K : PS → Prop, (∀ σ σ', Gh n σ σ' → J σ' → K σ) → go (aL E ops ops K σ)) (hy : ∀ σ, J σ → W E n tl y Q σ) : W E n tl (.seq (.region id ops.toArray false) y) Q σ :=
 W.dE fun K hK => h K fun σ _ hg hJ => hK σ (W.ghost hg (hy _ hJ))
theorem W.anj {id : Nat} {ops : List Oper} {y : Code} (J : PS → Prop) (h : ∀ K : PS → Prop, (∀ σ σ', Gh n σ σ' → J σ' → K σ) → go (fB E (tl id) ops K σ)) (hy : ∀ σ, J σ → W E n tl y Q σ) : W E n tl (.seq (.region id ops.toArray true) y) Q σ :=
 W.X6 fun K hK => h K fun σ _ hg hJ => hK σ (W.ghost hg (hy _ hJ))
@[simp] theorem afv {J : PS → Prop} : MW J Q .normal σ = J σ := rfl
@[simp] theorem ank {J : PS → Prop} : MW J Q .ret σ = Q .ret σ := rfl
@[simp] theorem ala {J : PS → Prop} {id : Nat} : MW J Q (.exit id) σ = Q (.exit id) σ := rfl
@[simp] theorem afw {J : PS → Prop} : BP J Q .normal σ = J σ := rfl
@[simp] theorem anl {J : PS → Prop} : BP J Q .ret σ = Q .ret σ := rfl
@[simp] theorem alb {J : PS → Prop} {id : Nat} : BP J Q (.exit id) σ = Q (.exit id) σ := rfl
@[simp] theorem afx {id : Nat} : BQ id Q .normal σ = Q .normal σ := rfl
@[simp] theorem anm {id : Nat} : BQ id Q .ret σ = Q .ret σ := rfl
@[simp] theorem alc {id j : Nat} : BQ id Q (.exit j) σ = if j = id then Q .normal σ else Q (.exit j) σ := rfl
theorem pX : (∀ (Q : PX → PS → Prop) (σ : PS) (id j : Nat), BQ id Q (.exit j) σ = if j = id then Q .normal σ else Q (.exit j) σ) ∧ (∀ (Q : PX → PS → Prop) (σ : PS) (id : Nat), BQ id Q .normal σ = Q .normal σ) ∧ (∀ (Q : PX → PS → Prop) (σ : PS) (id : Nat), BQ id Q .ret σ = Q .ret σ) ∧
  (∀ (J : PS → Prop) (Q : PX → PS → Prop) (σ : PS) (id : Nat), BP J Q (.exit id) σ = Q (.exit id) σ) ∧ (∀ (J : PS → Prop) (Q : PX → PS → Prop) (σ : PS), BP J Q .normal σ = J σ) ∧ (∀ (J : PS → Prop) (Q : PX → PS → Prop) (σ : PS), BP J Q .ret σ = Q .ret σ) ∧
  (∀ (J : PS → Prop) (Q : PX → PS → Prop) (σ : PS) (id : Nat), MW J Q (.exit id) σ = Q (.exit id) σ) ∧ (∀ (J : PS → Prop) (Q : PX → PS → Prop) (σ : PS), MW J Q .normal σ = J σ) ∧ (∀ (J : PS → Prop) (Q : PX → PS → Prop) (σ : PS), MW J Q .ret σ = Q .ret σ) :=
 ⟨fun _ _ _ _ => rfl, fun _ _ _ => rfl, fun _ _ _ => rfl, fun _ _ _ _ => rfl, fun _ _ _ => rfl, fun _ _ _ => rfl, fun _ _ _ _ => rfl, fun _ _ _ => rfl, fun _ _ _ => rfl⟩
end
end Pm
namespace Pm
open Go
theorem ann {P : Program} {g : FuncId} {fF : List PV} {rows : Rows} {clk : Nat} {K : PV → Rows → Nat → Prop} {R : PV → Rows → Nat → Prop} (h : SG P g fF rows clk R) (hK : ∀ r rows' jN, R r rows' jN → go (K r rows' jN)) : vN P g fF rows clk K := ⟨R, h, hK⟩
theorem aA {P : Program} {g : FuncId} {args : List PV} {K : PV → Prop} {v : PV} (h : aK P g args v) (hK : go (K v)) : sS P g args K := ⟨v, h, hK⟩
theorem W.X8 {E : Env} {n : Nat} {tl : Nat → Nat} {c : Code} {Q : PX → PS → Prop} {f : Nat → PV} {rows : Rows} {clk : Nat} (l : List Nat) (h : ∀ K : PS → Prop, (∀ σ, W E n tl c Q σ → K σ) → K ⟨fa (l.map fun i => (i, f i)), rows, clk⟩) : W E n tl c Q ⟨f, rows, clk⟩ := W.live l (h _ fun _ h => h)
theorem W.lv {E : Env} {n : Nat} {tl : Nat → Nat} {c : Code} {Q : PX → PS → Prop} {f : Nat → PV} {rows : Rows} {clk : Nat} {K0 : PS → Prop} (l : List Nat) (hK : ∀ σ, W E n tl c Q σ → K0 σ) (h : ∀ K : PS → Prop, (∀ σ, W E n tl c Q σ → K σ) → K ⟨fa (l.map fun i => (i, f i)), rows, clk⟩) : K0 ⟨f, rows, clk⟩ := hK _ (W.X8 l h)
inductive Bx (P : PS → Prop) : Type
  | mk
def aW {P : PS → Prop} (_ : Bx P) (σ : PS) : Prop := P σ
theorem W.lw {E : Env} {n : Nat} {tl : Nat → Nat} {c : Code} {Q : PX → PS → Prop} {f : Nat → PV} {rows : Rows} {clk : Nat} {K0 : PS → Prop} (l : List Nat) (hK : ∀ σ, W E n tl c Q σ → K0 σ) (h : aW (Bx.mk (P := W E n tl c Q)) ⟨fa (l.map fun i => (i, f i)), rows, clk⟩) : K0 ⟨f, rows, clk⟩ := hK _ (W.X8 l fun _ q => q _ h)
theorem W.lx {E : Env} {n : Nat} {tl : Nat → Nat} {c : Code} {Q : PX → PS → Prop} {f : Nat → PV} {rows : Rows} {clk : Nat} (l : List Nat) (h : aW (Bx.mk (P := W E n tl c Q)) ⟨fa (l.map fun i => (i, f i)), rows, clk⟩) : aW (Bx.mk (P := W E n tl c Q)) ⟨f, rows, clk⟩ := W.X8 l fun _ q => q _ h
theorem W.sr {E : Env} {n : Nat} {tl : Nat → Nat} {Q : PX → PS → Prop} {σ : PS} {id : Nat} {ops : List Oper} {y : Code} (h : go (aL E ops ops (aW (Bx.mk (P := W E n tl y Q))) σ)) : W E n tl (.seq (.region id ops.toArray false) y) Q σ := by
  refine W.seq ?_
  intro fI w0 S0 G a w Q' hR hQ
  simp only [dZ, o6, Bool.and_eq_true] at fI
  refine wp_region_list (fR (fun σ' a' w' hk j1 => hQ .normal σ' a' w' hk j1) _ σ a w (fun o ho t ht => ?_) h hR)
  have := Array.all_eq_true_iff_forall_mem.1 fI.1 o (by simpa using ho)
  simpa [ht] using this
theorem W.sd {E : Env} {n : Nat} {tl : Nat → Nat} {Q : PX → PS → Prop} {σ : PS} {id : Nat} {ops : List Oper} {y : Code} (h : go (fB E (tl id) ops (aW (Bx.mk (P := W E n tl y Q))) σ)) : W E n tl (.seq (.region id ops.toArray true) y) Q σ := by
  refine W.seq ?_
  intro fI w0 S0 G a w Q' hR hQ
  exact rC (by simpa [dZ] using fI) h hR fun σ' a' w' hk j1 => hQ .normal σ' a' w' hk j1
end Pm
namespace Pm
open Go Go.RowKit
def Wk (p q : PV) : Prop := q = p ∨ (p = .nil ∧ q = .sl [])
theorem Wk.rep {c : Cx} {p q : PV} {v : Value} (h : Wk p q) (hr : aP c p v) : aP c q v := by
 rcases h with rfl | ⟨rfl, rfl⟩
 ·exact hr
 ·simp only [aP, cN] at hr ⊢
  exact ⟨none, 0, by simpa using hr, by simp, by simp, .inl trivial⟩
theorem a9.flat {α β : Type} {R : α → β → Prop} : ∀ {l : List (List α)} {m : List (List β)}, a9 (a9 R) l m → a9 R l.flatten m.flatten
 | [], [], _ => trivial
 | a :: l, b :: m, h => by
  obtain ⟨h1, h2⟩ := h
  have ih := a9.flat h2
  clear h2
  induction a generalizing b with
  | nil => cases b with
   | nil => exact ih
   | cons => exact h1.elim
  | cons x a iha => cases b with
   | nil => exact h1.elim
   | cons y b => exact ⟨h1.1, iha b h1.2⟩
theorem aia {n id ver e m clk : Nat} {f : Nat → PV} {rows : Rows} {els EE : List (List PV)} (hr : rows id = some ⟨ver, e, m, els⟩) (hw : a9 (a9 fun q p => Wk p q) EE els) : Gh n ⟨f, rows, clk⟩ ⟨f, dF rows id (some ⟨ver, e, m, EE⟩), clk⟩ := by
 rintro w0 S0 G a w ⟨⟨c, rfl, sY, eO, hI, hf, hG⟩, h7, h8⟩
 have jJ : c.rows id = some ⟨ver, e, m, els⟩ := by rw [sY]; exact hr
 obtain ⟨⟨xs, g1, g2, g3⟩, g4, g5, g6⟩ := hI.row id _ jJ
 have hlen : EE.length = els.length := hw.length
 obtain ⟨uE, hA⟩ := hI.dF (w' := c.w) (r' := ⟨ver, e, m, EE⟩) (xs := xs) jJ (World.grownBy.refl _ _) (by simp only [hlen]; exact g1)
  (by
   have h1 := a9.flat hw
   have : ∀ {l : List PV} {k : List PV} {vs : List Value}, a9 (fun q p => Wk p q) l k → a9 (aP c) k vs → a9 (aP c) l vs := by
    intro l
    induction l with
    | nil => intro k vs h h'; cases k with
     | nil => exact h'
     | cons => exact h.elim
    | cons x l ih => intro k vs h h'; cases k with
     | nil => exact h.elim
     | cons y k => cases vs with
      | nil => exact h'.elim
      | cons v vs => exact ⟨h.1.rep h'.1, ih h.2 h'.2⟩
   exact this h1 g2) g3 (fun el nE => by
   obtain ⟨k, hk⟩ := List.getElem?_of_mem nE
   obtain ⟨b, hb, h1⟩ := hw.get hk
   rw [h1.length]
   exact g4 b (List.mem_of_getElem? hb)) rfl rfl hlen
 refine ⟨⟨{ c with rows := dF c.rows id (some ⟨ver, e, m, EE⟩) }, rfl, by simp [sY], eO, uE, fun s => aI.rH hA _ _ (hf s), fun p hp => aI.rH hA _ _ (hG p hp)⟩, h7, h8⟩
theorem aib {n s id e m clk : Nat} {f : Nat → PV} {rows : Rows} (hs : f s = .nil) (hm : 0 < m) : Gh n ⟨f, rows, clk⟩ ⟨put f (some s) (.own id clk 0 0), dF rows id (some ⟨clk, e, m, []⟩), clk + 1⟩ := by
 rintro w0 S0 G a w ⟨⟨c, rfl, sY, eO, hI, hf, hG⟩, h7, h8⟩
 obtain ⟨uE, hA⟩ := hI.set (w' := c.w) (ob := none) (id := id) (r' := ⟨clk, e, m, []⟩) (v' := .slice none 0 0) (xs := []) (World.grownBy.refl _ _) (by simp) ⟨by simp, .inl ⟨rfl, rfl⟩⟩ (by simp [a9]) (by simp) (by simp) hm (by simp [Value.ownBlock]) (fun hu => Nat.lt_irrefl _ (eO _ hu))
 refine ⟨⟨{ c with β := dF c.β id (.slice none 0 0), rows := dF c.rows id (some ⟨clk, e, m, []⟩), used := fun v => v = clk ∨ c.used v }, rfl, by simp [sY], fun v hv => by
  show v < clk + 1
  rcases hv with rfl | hv
  ·omega
  ·have : v < clk := eO v hv
   omega, uE, fun t => ?_, fun p hp => aI.rH hA _ _ (hG p hp)⟩, h7, h8⟩
 simp only [put]
 split
 ·rename_i ht
  subst ht
  have h1 := hf t
  simp only at h1
  rw [hs] at h1
  simp only [aI, aP, cN] at h1
  simp only [aI, aP]
  refine ⟨.inl (by first | rfl | trivial), fun r hr hv => ?_⟩
  simp only [fP, Option.some.injEq] at hr
  subst hr
  exact ⟨by simp, .inl ⟨trivial, none, 0, 0, by simp [dF], h1⟩⟩
 ·exact aI.rH hA _ _ (hf t)
theorem IC {α β : Type} {R : α → β → Prop} {x : α} {y : β} (h : R x y) : ∀ k : Nat, a9 R (List.replicate k x) (List.replicate k y)
 | 0 => trivial
 | k + 1 => ⟨h, IC h k⟩
section
variable {E : Env} {n : Nat} {tl : Nat → Nat} {Q : PX → PS → Prop} {c : Code} {f : Nat → PV} {rows : Rows} {clk : Nat}
theorem W.row {id ver e m : Nat} {els : List (List PV)} (EE : List (List PV)) (hr : rows id = some ⟨ver, e, m, els⟩) (hw : a9 (a9 fun q p => Wk p q) EE els) (h : W E n tl c Q ⟨f, dF rows id (some ⟨ver, e, m, EE⟩), clk⟩) : W E n tl c Q ⟨f, rows, clk⟩ := W.ghost (aia hr hw) h
theorem W.nil (s id e m : Nat) (hs : f s = .nil) (hm : 0 < m) (h : ∀ K : PS → Prop, (∀ σ, W E n tl c Q σ → K σ) → K ⟨put f (some s) (.own id clk 0 0), dF rows id (some ⟨clk, e, m, []⟩), clk + 1⟩) : W E n tl c Q ⟨f, rows, clk⟩ := W.ghost (aib hs hm) (h _ fun _ h => h)
end
def fzP (o : Option Row) (ver i j : Nat) : PV :=
 match o with
 | some r => if r.ver = ver then .rd ((r.els.getD i []).drop j) else .undef
 | none => .undef
@[simp] theorem ass {rows : Rows} {id ver i j : Nat} : fz rows (.ptr id ver i j) = fzP (rows id) ver i j := rfl
@[simp] theorem ast {rows : Rows} {id ver i j : Nat} : pz rows (.ptr id ver i j) = fzP (rows id) ver i j := rfl
@[simp] theorem aqs {ver e n : Nat} {el : List PV} : fzP (some ⟨ver, e, n, [el]⟩) ver 0 0 = .rd el := by simp [fzP]
@[simp] theorem ano {id ver i j : Nat} : dD (.ptr id ver i j) = [id] := rfl
@[simp] theorem afy {ver e n : Nat} {el : List PV} : cT (some ⟨ver, e, n, [el]⟩) = ∀ p ∈ el, bY p = true := by simp [cT]
end Pm
namespace Pm
open Go
theorem dP {E : Env} {m : Nat} {ops : List Oper} {K : PS → Prop} {f : Nat → PV} {rows : Rows} {clk : Nat} : go (fB E (m + 1) ops K ⟨f, rows, clk⟩) = go (aN E ops clk 0 (ops.take (ops.length - (m + 1))) (aL E ops (ops.drop (ops.length - (m + 1))) K) ⟨f, rows, fun _ _ => False, fun _ _ => False⟩) := by
 simp [fB]
end Pm
namespace Pm
open Go Go.RowKit
def G0 (rows : Rows) (id : Nat) : PV → PV
 | .own i ver off len => if i = id then fz rows (.own i ver off len) else .own i ver off len
 | .ptr i ver a j => if i = id then fz rows (.ptr i ver a j) else .ptr i ver a j
 | p => p
def E2 (rows : Rows) (id : Nat) : PV → PV
 | .ag l => .ag (l.map (G0 rows id))
 | p => G0 rows id p
theorem E3 {w0 : World} {S0 : dA} {c : Cx} (hI : Inv w0 S0 c) {id : Nat} (hp : ∀ r, c.rows id = some r → ∀ e ∈ r.els, ∀ p ∈ e, bY p = true) {p : PV} {v : Value} (h : aP c p v) : aP (BH c [id]) (G0 c.rows id p) v := by
 have uC : ∀ i ∈ [id], ∀ r, c.rows i = some r → ∀ e ∈ r.els, ∀ p ∈ e, bY p = true := by intro i hi; simp at hi; subst hi; exact hp
 have key : ∀ q : PV, aP c q v → (∀ i ∈ a7 q, i ∈ [id]) → (fz c.rows q = .undef ∨ bY (fz c.rows q) = true) → aP (BH c [id]) (fz c.rows q) v := by
  intro q hq hi ho
  rcases ho with ho | ho
  ·rw [ho]; simp [aP]
  ·exact aP.iW (EC hI uC hq hi ho)
 cases p with
 | own i ver off len =>
  simp only [G0]
  split
  ·rename_i hi
   subst hi
   refine key _ h (by simp [a7]) ?_
   simp only [fz]
   cases c.rows i with
   | none => exact .inl rfl
   | some r =>
    simp only
    split
    ·exact .inr rfl
    ·exact .inl rfl
  ·exact aP.rH (kJ c [id]) _ _ h
 | ptr i ver a j =>
  simp only [G0]
  split
  ·rename_i hi
   subst hi
   refine key _ h (by simp [a7]) ?_
   simp only [fz]
   cases c.rows i with
   | none => exact .inl rfl
   | some r =>
    simp only
    split
    ·exact .inr rfl
    ·exact .inl rfl
  ·exact aP.rH (kJ c [id]) _ _ h
 | _ => exact aP.rH (kJ c [id]) _ _ h
theorem P5 {w0 : World} {S0 : dA} {c : Cx} (hI : Inv w0 S0 c) {id : Nat} (hp : ∀ r, c.rows id = some r → ∀ e ∈ r.els, ∀ p ∈ e, bY p = true) {p : PV} {v : Value} (h : aI c p v) : aI (BH c [id]) (E2 c.rows id p) v := by
 cases p with
 | ag l =>
  obtain ⟨vs, h1, h2⟩ := h
  refine ⟨vs, h1, a9.cW (by simp [h2.length]) fun k a b ha hb => ?_⟩
  simp at ha
  obtain ⟨q, hq, rfl⟩ := ha
  obtain ⟨b', x9, hr⟩ := h2.get hq
  rw [hb] at x9; cases x9
  exact E3 hI hp hr
 | _ =>
  simp only [aI] at h
  have := E3 hI hp h
  simp only [E2]
  exact (by
   first
    | (simp only [G0, aI] at this ⊢; exact this)
    | (simp only [G0] at this ⊢
       split
       · rename_i hi; rw [if_pos hi] at this; simp only [fz] at this ⊢; revert this; split <;> (try split) <;> exact fun h => h
       · rename_i hi; rw [if_neg hi] at this; exact this))
theorem CX {rows : Rows} {id : Nat} : E2 rows id .undef = .undef := rfl
theorem X9 {l : List (Nat × PV)} {g : PV → PV} (hg : g .undef = .undef) : (fun s => g (fa l s)) = fa (l.map fun p => (p.1, g p.2)) := by
 funext s
 induction l with
 | nil => exact hg
 | cons p l ih =>
  obtain ⟨i, v⟩ := p
  simp only [fa, List.map_cons]
  split
  ·rfl
  ·exact ih
theorem TF {n clk : Nat} {l : List (Nat × PV)} {rows : Rows} (id : Nat) (hp : cT (rows id)) : Gh n ⟨fa l, rows, clk⟩ ⟨fa (l.map fun p => (p.1, E2 rows id p.2)), CJ rows [id], clk⟩ := by
 rintro w0 S0 G a w ⟨⟨c, rfl, sY, eO, hI, hf, hG⟩, h7, h8⟩
 have YA : c.rows = rows := sY
 subst YA
 refine ⟨⟨BH c [id], rfl, rfl, eO, hI.freeze [id], fun s => ?_, fun p hp => aI.rH (kJ c [id]) _ _ (hG p hp)⟩, h7, h8⟩
 rw [← X9 (g := E2 c.rows id) CX]
 exact P5 hI hp (hf s)
theorem W.freeze {E : Env} {n : Nat} {tl : Nat → Nat} {Q : PX → PS → Prop} {c : Code} {l : List (Nat × PV)} {rows : Rows} {clk : Nat} (id : Nat) (hp : cT (rows id)) (h : ∀ K : PS → Prop, (∀ σ, W E n tl c Q σ → K σ) → K ⟨fa (l.map fun p => (p.1, E2 rows id p.2)), CJ rows [id], clk⟩) : W E n tl c Q ⟨fa l, rows, clk⟩ := W.ghost (TF id hp) (h _ fun _ h => h)
@[simp] theorem aqt {rows : Rows} {id i ver off len : Nat} : E2 rows id (.own i ver off len) = if i = id then fzR (rows i) ver off len else .own i ver off len := rfl
@[simp] theorem aqu {rows : Rows} {id i ver a j : Nat} : E2 rows id (.ptr i ver a j) = if i = id then fzP (rows i) ver a j else .ptr i ver a j := rfl
@[simp] theorem aqv {α : Type} {g : α → List PV} {rows : Rows} {id : Nat} {l : List α} : E2 rows id (aJ g l) = aJ g l := rfl
@[simp] theorem aqw {rows : Rows} {id : Nat} {k : IntKind} {n : Int} : E2 rows id (.int k n) = .int k n := rfl
@[simp] theorem anp {rows : Rows} {id : Nat} {b : Bool} : E2 rows id (.bool b) = .bool b := rfl
@[simp] theorem aqx {rows : Rows} {id : Nat} : E2 rows id .nil = .nil := rfl
@[simp] theorem asu {rows : Rows} {id : Nat} {l : List (List PV)} : E2 rows id (.sl l) = .sl l := rfl
@[simp] theorem aqy {rows : Rows} {id : Nat} {l : List (List PV)} : E2 rows id (.iV l) = .iV l := rfl
@[simp] theorem asv {rows : Rows} {id : Nat} {l : List PV} : E2 rows id (.ag l) = .ag (l.map (G0 rows id)) := rfl
@[simp] theorem aqz {rows : Rows} {id : Nat} {k : IntKind} {n : Int} : G0 rows id (.int k n) = .int k n := rfl
@[simp] theorem anq {rows : Rows} {id : Nat} {b : Bool} : G0 rows id (.bool b) = .bool b := rfl
@[simp] theorem aqA {rows : Rows} {id : Nat} : G0 rows id .nil = .nil := rfl
@[simp] theorem aqB {α : Type} {g : α → List PV} {rows : Rows} {id : Nat} {l : List α} : G0 rows id (aJ g l) = aJ g l := rfl
theorem acN {n s clk : Nat} {f : Nat → PV} {rows : Rows} (q : PV) (hs : f s = .nil) (hq : q = .sl []) : Gh n ⟨f, rows, clk⟩ ⟨put f (some s) q, rows, clk⟩ := by
 rintro w0 S0 G a w ⟨⟨c, rfl, sY, eO, hI, hf, hG⟩, h7, h8⟩
 refine ⟨⟨c, rfl, sY, eO, hI, fun t => ?_, hG⟩, h7, h8⟩
 simp only [put]
 split
 ·rename_i ht
  subst ht
  have h1 := hf t
  simp only at h1
  rw [hs] at h1
  subst hq
  simp only [aI] at h1 ⊢
  exact Wk.rep (.inr ⟨rfl, rfl⟩) h1
 ·exact hf t
theorem W.TG {E : Env} {n : Nat} {tl : Nat → Nat} {Q : PX → PS → Prop} {c : Code} {f : Nat → PV} {rows : Rows} {clk : Nat} (s : Nat) (q : PV) (hs : f s = .nil) (hq : q = .sl []) (h : ∀ K : PS → Prop, (∀ σ, W E n tl c Q σ → K σ) → K ⟨put f (some s) q, rows, clk⟩) : W E n tl c Q ⟨f, rows, clk⟩ := W.ghost (acN q hs hq) (h _ fun _ h => h)
theorem acO {c : Cx} {l : List (List PV)} {v : Value} (hr : aP c (.iV l) v) : aP c (.sl l) v := by
 simp only [aP, cN] at hr ⊢
 obtain ⟨a, h1, h2, h3⟩ := hr
 exact ⟨a, l.length, h1, Nat.le_refl _, h2, h3⟩
theorem acP {n s clk : Nat} {f : Nat → PV} {rows : Rows} (l : List (List PV)) (q : PV) (hs : f s = .iV l) (hq : q = .sl l) : Gh n ⟨f, rows, clk⟩ ⟨put f (some s) q, rows, clk⟩ := by
 rintro w0 S0 G a w ⟨⟨c, rfl, sY, eO, hI, hf, hG⟩, h7, h8⟩
 refine ⟨⟨c, rfl, sY, eO, hI, fun t => ?_, hG⟩, h7, h8⟩
 simp only [put]
 split
 ·rename_i ht
  subst ht
  have h1 := hf t
  simp only at h1
  rw [hs] at h1
  subst hq
  simp only [aI] at h1 ⊢
  exact acO h1
 ·exact hf t
theorem W.asw {E : Env} {n : Nat} {tl : Nat → Nat} {Q : PX → PS → Prop} {c : Code} {f : Nat → PV} {rows : Rows} {clk : Nat} (s : Nat) (l : List (List PV)) (q : PV) (hs : f s = .iV l) (hq : q = .sl l) (h : ∀ K : PS → Prop, (∀ σ, W E n tl c Q σ → K σ) → K ⟨put f (some s) q, rows, clk⟩) : W E n tl c Q ⟨f, rows, clk⟩ := W.ghost (acP l q hs hq) (h _ fun _ h => h)
def y7 (rows : Rows) (id : Nat) : Option Row → Option Row
 | some r => some { r with els := r.els.map fun e => e.map (G0 rows id) }
 | none => none
def B3 (rows : Rows) (id : Nat) : Rows := fun j => if j = id then none else y7 rows id (rows j)
@[simp] theorem aqC {rows : Rows} {id j : Nat} : B3 rows id j = if j = id then none else y7 rows id (rows j) := rfl
@[simp] theorem afz {rows : Rows} {id v e n : Nat} {els : List (List PV)} : y7 rows id (some ⟨v, e, n, els⟩) = some ⟨v, e, n, els.map fun e => e.map (G0 rows id)⟩ := rfl
@[simp] theorem afA {rows : Rows} {id : Nat} : y7 rows id none = none := rfl
@[simp] theorem aqD {rows : Rows} {id i ver off len : Nat} : G0 rows id (.own i ver off len) = if i = id then fzR (rows i) ver off len else .own i ver off len := rfl
@[simp] theorem aqE {rows : Rows} {id i ver a j : Nat} : G0 rows id (.ptr i ver a j) = if i = id then fzP (rows i) ver a j else .ptr i ver a j := rfl
theorem MX {n clk : Nat} {l : List (Nat × PV)} {rows : Rows} (id : Nat) (hp : cT (rows id)) : Gh n ⟨fa l, rows, clk⟩ ⟨fa (l.map fun p => (p.1, E2 rows id p.2)), B3 rows id, clk⟩ := by
 rintro w0 S0 G a w ⟨⟨c, rfl, sY, eO, hI, hf, hG⟩, h7, h8⟩
 have YA : c.rows = rows := sY
 subst YA
 have HE := hI.freeze [id]
 have live : ∀ {j : Nat} {r' : Row}, B3 c.rows id j = some r' → j ≠ id ∧ ∃ r, c.rows j = some r ∧ r' = { r with els := r.els.map fun e => e.map (G0 c.rows id) } := by
  intro j r' h
  simp only [B3] at h
  split at h
  ·cases h
  ·rename_i hj
   cases hr : c.rows j with
   | none => rw [hr] at h; cases h
   | some r => rw [hr] at h; simp only [y7, Option.some.injEq] at h; exact ⟨hj, r, rfl, h.symm⟩
 have hA : rG (BH c [id]) { BH c [id] with rows := B3 c.rows id } := by
  refine ⟨fun _ _ h => h, fun _ _ _ => rfl, fun _ h => h, fun j r' h => ?_⟩
  obtain ⟨hj, r, hr, rfl⟩ := live h
  exact .inr ⟨r, by simp [BH, CJ, hj, hr], rfl, rfl, by simp, rfl⟩
 have hI2 : Inv w0 S0 { BH c [id] with rows := B3 c.rows id } := by
  refine ⟨HE.below, HE.ext, HE.new, HE.lt0, fun j r' h => ?_, fun j r' h => ?_, fun i j r s g hr hs => ?_⟩
  ·obtain ⟨hj, r, hr, rfl⟩ := live h
   exact hI.clock j r hr
  ·obtain ⟨hj, r, hr, rfl⟩ := live h
   obtain ⟨⟨xs, g1, g2, g3⟩, g4, g5, g6⟩ := hI.row j r hr
   obtain ⟨_, _, f5, _⟩ := HE.row j r (by simp [BH, CJ, hj, hr])
   refine ⟨⟨xs, by rw [List.length_map]; exact g1, ?_, g3⟩, fun e he => ?_, f5, g6⟩
   ·show a9 _ (List.flatten (r.els.map fun e => e.map (G0 c.rows id))) xs
    rw [← List.map_flatten]
    refine a9.cW (by rw [List.length_map]; exact g2.length) fun k p u uC hu => ?_
    rw [List.getElem?_map] at uC
    obtain ⟨q, hq, rfl⟩ := Option.map_eq_some_iff.1 uC
    obtain ⟨u', SD, jJ⟩ := g2.get hq
    rw [hu] at SD; cases SD
    exact aP.rH hA _ _ (E3 hI hp jJ)
   ·simp only [List.mem_map] at he
    obtain ⟨e', sI, rfl⟩ := he
    simpa using g4 e' sI
  ·obtain ⟨hi, r1, B4, rfl⟩ := live hr
   obtain ⟨hj, r2, cM, rfl⟩ := live hs
   exact hI.apart i j r1 r2 g B4 cM
 refine ⟨⟨{ BH c [id] with rows := B3 c.rows id }, rfl, rfl, eO, hI2, fun s => ?_, fun p hp => aI.rH hA _ _ (aI.rH (kJ c [id]) _ _ (hG p hp))⟩, h7, h8⟩
 show aI _ (fa (l.map fun p => (p.1, E2 c.rows id p.2)) s) _
 rw [← X9 (g := E2 c.rows id) CX]
 exact aI.rH hA _ _ (P5 hI hp (hf s))
theorem W.E4 {E : Env} {n : Nat} {tl : Nat → Nat} {Q : PX → PS → Prop} {c : Code} {l : List (Nat × PV)} {rows : Rows} {clk : Nat} (id : Nat) (hp : cT (rows id)) (h : ∀ K : PS → Prop, (∀ σ, W E n tl c Q σ → K σ) → K ⟨fa (l.map fun p => (p.1, E2 rows id p.2)), B3 rows id, clk⟩) : W E n tl c Q ⟨fa l, rows, clk⟩ := W.ghost (MX id hp) (h _ fun _ h => h)
end Pm
