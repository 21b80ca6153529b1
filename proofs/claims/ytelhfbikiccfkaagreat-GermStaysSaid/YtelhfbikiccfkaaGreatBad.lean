import Derived.Test.YtelhfbikiccfkaaGreatBac
set_option linter.unusedSimpArgs false
set_option linter.unusedVariables false
namespace Pm
open Go Go.RowKit
def emap {α : Type} (g : α → List PV) (l : List α) : List (List PV) := l.map g
def aI {α : Type} (g : α → List PV) (l : List α) : PV := .sl (emap g l)
def nth {α : Type} [Inhabited α] (l : List α) (i : Nat) : α := l[i]?.getD default
def Enc {α : Type} (g : α → List PV) (n : Nat) : Prop := ∀ x, (g x).length = n
def aoX {α : Type} (g : α → List PV) : Prop := ∀ x, (g x).all cM = true
def bO (o : Option Row) (ver : Nat) (K : Row → Prop) : Prop := ∃ r, o = some r ∧ r.ver = ver ∧ K r
@[congr] theorem adP {o o' : Option Row} {ver : Nat} {K : Row → Prop} (h : o = o') : bO o ver K = bO o' ver K := by rw [h]
@[simp] theorem aez {r : Row} {ver : Nat} {K : Row → Prop} : bO (some r) ver K = aH (r.ver = ver) (K r) := by simp [bO, aH]
def FA (els : List (List PV)) (i : Nat) (K : List PV → Prop) : Prop := ∃ el, els[i]? = some el ∧ K el
@[congr] theorem amL {l l' : List (List PV)} {i i' : Nat} {K : List PV → Prop} (h : l = l') (hi : i = i') : FA l i K = FA l' i' K := by rw [h, hi]
@[simp] theorem KN {α : Type} [Inhabited α] {g : α → List PV} {l : List α} {i : Nat} {K : List PV → Prop} : FA (emap g l) i K = aH (i < l.length) (K (g (nth l i))) := by
 simp only [FA, emap, aH, nth]
 apply propext
 constructor
 ·rintro ⟨el, h1, h2⟩
  simp at h1
  obtain ⟨x, h1, rfl⟩ := h1
  have := (List.getElem?_eq_some_iff.1 h1).1
  rw [h1]
  exact ⟨this, h2⟩
 ·rintro ⟨h1, h2⟩
  rw [List.getElem?_eq_getElem h1] at h2
  exact ⟨g l[i], by simp [h1], h2⟩
@[simp] theorem aoY {e : List PV} {es : List (List PV)} {K : List PV → Prop} : FA (e :: es) 0 K = go (K e) := by show _ = K e; simp [FA]
@[simp] theorem aoZ {e : List PV} {es : List (List PV)} {i : Nat} {K : List PV → Prop} : FA (e :: es) (i + 1) K = FA es i K := by simp [FA]
def lU {α : Type} (l : List α) (i : Nat) : Option α := l[i]?
@[simp] theorem amM {α : Type} {x : α} {l : List α} : lU (x :: l) 0 = some x := rfl
@[simp] theorem amN {α : Type} {x : α} {l : List α} {n : Nat} : lU (x :: l) (n + 1) = lU l n := rfl
def fN {α : Type} (o : Option α) (K : α → Prop) : Prop := ∃ v, o = some v ∧ K v
@[congr] theorem ajt {α : Type} {o o' : Option α} {K : α → Prop} (h : o = o') : fN o K = fN o' K := by rw [h]
@[simp] theorem amO {α : Type} {x : α} {K : α → Prop} : fN (some x) K = go (K x) := by show _ = K x; simp [fN]
def yJ (ti : TI) (l : List PV) (j : Nat) (K : PV → Prop) : Prop := if ti.agg = true then aH (j + ti.size ≤ l.length) (K (.ag ((l.drop j).take ti.size))) else fN (lU l j) K
@[congr] theorem amP {t t' : TI} {l l' : List PV} {j : Nat} {K : PV → Prop} (h1 : t = t') (h2 : l = l') : yJ t l j K = yJ t' l' j K := by rw [h1, h2]
@[simp] theorem asR {k : IntKind} {l : List PV} {j : Nat} {K : PV → Prop} : yJ (.int k) l j K = fN (lU l j) K := by simp [yJ, TI.agg]
@[simp] theorem ao0 {l : List PV} {j : Nat} {K : PV → Prop} : yJ .bool l j K = fN (lU l j) K := by simp [yJ, TI.agg]
@[simp] theorem asS {l : List PV} {j : Nat} {K : PV → Prop} : yJ .str l j K = fN (lU l j) K := by simp [yJ, TI.agg]
@[simp] theorem amQ {e n b : Nat} {z : List PV} {l : List PV} {j : Nat} {K : PV → Prop} : yJ (.slice e n b z) l j K = fN (lU l j) K := by simp [yJ, TI.agg]
@[simp] theorem asT {e m n : Nat} {z : List PV} {l : List PV} {j : Nat} {K : PV → Prop} : yJ (.arr e m n z) l j K = aH (j + z.length ≤ l.length) (K (.ag ((l.drop j).take z.length))) := by simp [yJ, TI.agg, TI.size, TI.zero]
@[simp] theorem ao1 {l : List PV} {j : Nat} {K : PV → Prop} : yJ .AH l j K = fN (lU l j) K := by simp [yJ, TI.agg]
@[simp] theorem asU {l : List PV} {j : Nat} {K : PV → Prop} : yJ .fnT l j K = fN (lU l j) K := by simp [yJ, TI.agg]
@[simp] theorem aju {fs : List (Nat × Nat × Bool)} {z : List PV} {l : List PV} {j : Nat} {K : PV → Prop} : yJ (.struct fs z) l j K = aH (j + z.length ≤ l.length) (K (.ag ((l.drop j).take z.length))) := by simp [yJ, TI.agg, TI.size, TI.zero]
def kI (E : Env) (t : TypeId) (rows : Rows) (p : PV) (K : PV → Prop) : Prop :=
 aH ((E.ty t).known = true) (match p with
 | .rd l => yJ (E.ty t) l 0 K
 | .ptr id ver i j => bO (rows id) ver fun r => FA r.els i fun el => yJ (E.ty t) el j K
 | _ => False)
@[congr] theorem aeA {E : Env} {t : TypeId} {rows : Rows} {p p' : PV} {K : PV → Prop} (h : p = p') : kI E t rows p K = kI E t rows p' K := by rw [h]
@[simp] theorem amR {E : Env} {t : TypeId} {rows : Rows} {l : List PV} {K : PV → Prop} : kI E t rows (.rd l) K = aH ((E.ty t).known = true) (yJ (E.ty t) l 0 K) := rfl
@[simp] theorem ajv {E : Env} {t : TypeId} {rows : Rows} {id ver i j : Nat} {K : PV → Prop} : kI E t rows (.ptr id ver i j) K = aH ((E.ty t).known = true) (bO (rows id) ver fun r => FA r.els i fun el => yJ (E.ty t) el j K) := rfl
theorem KO {ti : TI} {l : List PV} {j : Nat} {K : PV → Prop} : aV (fun v => if ti.agg = true then j + ti.size ≤ l.length ∧ v = .ag ((l.drop j).take ti.size) else l[j]? = some v) K = yJ ti l j K := by
 simp only [yJ, fN]
 split
 ·rw [i9, jR]
 ·rfl
theorem tQ {E : Env} {t : TypeId} {rows : Rows} {p : PV} {K : PV → Prop} : aV (fun v => sR E t rows p v) K = kI E t rows p K := by
 simp only [sR, kI]
 rw [i9]
 congr 1
 cases p with
 | rd l => dsimp only; rw [← KO]; simp [go]
 | ptr id ver i j =>
  simp only [bO, FA, ← KO]
  apply propext; simp only [aV]
  constructor
  ·rintro ⟨v, ⟨r, h1, h2, el, h3, h4⟩, h5⟩; exact ⟨r, h1, h2, el, h3, v, h4, h5⟩
  ·rintro ⟨r, h1, h2, el, h3, v, h4, h5⟩; exact ⟨v, ⟨r, h1, h2, el, h3, h4⟩, h5⟩
 | _ => simp [aV]
def jS (ti : TI) (i : Nat) (x : PV) (K : PV → Prop) : Prop :=
 match ti with
 | .struct fs _ => fN (lU fs i) fun p => match x with
  | .ag l => if p.2.2 = true then K (.ag ((l.drop p.1).take p.2.1)) else fN (lU l p.1) K
  | _ => False
 | _ => False
@[congr] theorem adQ {t t' : TI} {i : Nat} {x x' : PV} {K : PV → Prop} (h : t = t') (h2 : x = x') : jS t i x K = jS t' i x' K := by rw [h, h2]
def HD (p : Nat × Nat × Bool) (l : List PV) (K : PV → Prop) : Prop := if p.2.2 = true then K (.ag ((l.drop p.1).take p.2.1)) else fN (lU l p.1) K
@[simp] theorem amS {o n : Nat} {l : List PV} {K : PV → Prop} : HD (o, n, true) l K = go (K (.ag ((l.drop o).take n))) := by show _ = K _; simp [HD]
@[simp] theorem ajw {o n : Nat} {l : List PV} {K : PV → Prop} : HD (o, n, false) l K = fN (lU l o) K := by simp [HD]
@[congr] theorem ajx {p p' : Nat × Nat × Bool} {l l' : List PV} {K : PV → Prop} (h : p = p') (h2 : l = l') : HD p l K = HD p' l' K := by rw [h, h2]
@[simp] theorem ajy {fs : List (Nat × Nat × Bool)} {z : List PV} {i : Nat} {l : List PV} {K : PV → Prop} : jS (.struct fs z) i (.ag l) K = fN (lU fs i) fun p => HD p l K := rfl
theorem yK {E : Env} {t : TypeId} {i : Nat} {x : PV} {K : PV → Prop} : aV (fun v => tH E t i x v) K = jS (E.ty t) i x K := by
 simp only [tH, jS]
 cases E.ty t with
 | struct fs z =>
  simp only [fN]
  apply propext; simp only [aV]
  cases x with
  | ag l =>
   simp only
   constructor
   ·rintro ⟨v, ⟨o, n, b, h1, h2⟩, h3⟩
    refine ⟨_, h1, ?_⟩
    simp only
    split at h2
    ·rename_i hb; rw [if_pos hb, ← h2]; exact h3
    ·rename_i hb; rw [if_neg hb]; exact ⟨v, h2, h3⟩
   ·rintro ⟨⟨o, n, b⟩, h1, h2⟩
    simp only at h2
    split at h2
    ·rename_i hb; exact ⟨_, ⟨o, n, b, h1, by rw [if_pos hb]⟩, h2⟩
    ·rename_i hb; obtain ⟨v, h3, h4⟩ := h2; exact ⟨v, ⟨o, n, b, h1, by rw [if_neg hb]; exact h3⟩, h4⟩
  | _ => simp
 | _ => simp [aV]
def dR (ti : TI) (rows : Rows) (i : Nat) (x : PV) (K : PV → Prop) : Prop :=
 match ti with
 | .struct fs _ => fN (lU fs i) fun p => match x with
  | .rd l => aH (p.1 ≤ l.length) (K (.rd (l.drop p.1)))
  | .ptr id ver a j => bO (rows id) ver fun _ => K (.ptr id ver a (j + p.1))
  | _ => False
 | _ => False
@[congr] theorem S5 {t t' : TI} {rows : Rows} {i : Nat} {x x' : PV} {K : PV → Prop} (h : t = t') (h2 : x = x') : dR t rows i x K = dR t' rows i x' K := by rw [h, h2]
@[simp] theorem aaB {fs : List (Nat × Nat × Bool)} {z : List PV} {rows : Rows} {i : Nat} {l : List PV} {K : PV → Prop} : dR (.struct fs z) rows i (.rd l) K = fN (lU fs i) fun p => aH (p.1 ≤ l.length) (K (.rd (l.drop p.1))) := rfl
@[simp] theorem Y3 {fs : List (Nat × Nat × Bool)} {z : List PV} {rows : Rows} {i id ver a j : Nat} {K : PV → Prop} : dR (.struct fs z) rows i (.ptr id ver a j) K = fN (lU fs i) fun p => bO (rows id) ver fun _ => K (.ptr id ver a (j + p.1)) := rfl
theorem pO {E : Env} {t : TypeId} {rows : Rows} {i : Nat} {x : PV} {K : PV → Prop} : aV (fun v => fJ E t rows i x v) K = dR (E.ty t) rows i x K := by
 simp only [fJ, dR]
 cases E.ty t with
 | struct fs z =>
  simp only [fN]
  apply propext; simp only [aV]
  cases x with
  | rd l =>
   simp only [aH]
   constructor
   ·rintro ⟨v, ⟨o, n, b, h1, h2, rfl⟩, h3⟩; exact ⟨_, h1, h2, h3⟩
   ·rintro ⟨⟨o, n, b⟩, h1, h2, h3⟩; exact ⟨_, ⟨o, n, b, h1, h2, rfl⟩, h3⟩
  | ptr id ver a j =>
   simp only [bO]
   constructor
   ·rintro ⟨v, ⟨o, n, b, h1, ⟨r, h2, h3⟩, rfl⟩, h4⟩; exact ⟨_, h1, r, h2, h3, h4⟩
   ·rintro ⟨⟨o, n, b⟩, h1, r, h2, h3, h4⟩; exact ⟨_, ⟨o, n, b, h1, ⟨r, h2, h3⟩, rfl⟩, h4⟩
  | _ => simp
 | _ => simp [aV]
def bF (n : Nat) (l : List (List PV)) : Prop := ∀ e ∈ l, e.length = n
@[simp] theorem dG {α : Type} {g : α → List PV} {n : Nat} {l : List α} : (Enc g n) → bF n (emap g l) = True := by
 intro h
 simp only [bF, emap, List.mem_map, eq_iff_iff, iff_true]
 rintro e ⟨x, _, rfl⟩
 exact h x
@[simp] theorem ajz {n : Nat} : bF n [] = True := by simp [bF]
@[simp] theorem ahd {n : Nat} {e : List PV} {l : List (List PV)} : bF n (e :: l) = (e.length = n ∧ bF n l) := by simp [bF]
def cB (ti : TI) (rows : Rows) (x ix : PV) (K : PV → Prop) : Prop :=
 match ti, ix with
 | .slice _ n _ _, .int _ k => aH (0 ≤ k) (match x with
  | .sl l => aH (bF n l) (FA l k.toNat fun el => K (.rd el))
  | .jN l => aH (bF n l) (FA l k.toNat fun el => K (.rd el))
  | .own id ver off len => bO (rows id) ver fun r => aH (r.size = n ∧ k.toNat < len) (K (.ptr id ver (off + k.toNat) 0))
  | _ => False)
 | .arr _ m n _, .int _ k => aH (0 ≤ k ∧ k.toNat < m) (match x with
  | .rd l => aH (k.toNat * n ≤ l.length) (K (.rd (l.drop (k.toNat * n))))
  | .ptr id ver a j => bO (rows id) ver fun _ => K (.ptr id ver a (j + k.toNat * n))
  | _ => False)
 | _, _ => False
@[congr] theorem S6 {t t' : TI} {rows : Rows} {x x' y y' : PV} {K : PV → Prop} (h : t = t') (h2 : x = x') (h3 : y = y') : cB t rows x y K = cB t' rows x' y' K := by rw [h, h2, h3]
section
variable {α : Type} [Inhabited α] {g : α → List PV} {l : List α} {e n b : Nat} {z : List PV} {rows : Rows} {kk : IntKind} {k : Int} {K : PV → Prop} {els : List (List PV)} {id ver off len : Nat}
@[simp] theorem Y4 : cB (.slice e n b z) rows (aI g l) (.int kk k) K = aH (0 ≤ k ∧ k.toNat < l.length) (aH (bF n (emap g l)) (K (.rd (g (nth l k.toNat))))) := by
 simp only [cB, aI, KN, aH, and_assoc]
 apply propext
 constructor
 ·rintro ⟨h1, h2, h3, h4⟩; exact ⟨h1, h3, h2, h4⟩
 ·rintro ⟨h1, h2, h3, h4⟩; exact ⟨h1, h3, h2, h4⟩
@[simp] theorem aaC : cB (.slice e n b z) rows (.sl els) (.int kk k) K = aH (0 ≤ k) (aH (bF n els) (FA els k.toNat fun el => K (.rd el))) := rfl
@[simp] theorem Y5 : cB (.slice e n b z) rows (.jN els) (.int kk k) K = aH (0 ≤ k) (aH (bF n els) (FA els k.toNat fun el => K (.rd el))) := rfl
@[simp] theorem Y6 {m : Nat} {l : List PV} : cB (.arr e m n z) rows (.rd l) (.int kk k) K = aH (0 ≤ k ∧ k.toNat < m) (aH (k.toNat * n ≤ l.length) (K (.rd (l.drop (k.toNat * n))))) := rfl
@[simp] theorem WE {m a j : Nat} : cB (.arr e m n z) rows (.ptr id ver a j) (.int kk k) K = aH (0 ≤ k ∧ k.toNat < m) (bO (rows id) ver fun _ => K (.ptr id ver a (j + k.toNat * n))) := rfl
@[simp] theorem Y7 : cB (.slice e n b z) rows (.own id ver off len) (.int kk k) K = aH (0 ≤ k) (bO (rows id) ver fun r => aH (r.size = n ∧ k.toNat < len) (K (.ptr id ver (off + k.toNat) 0))) := rfl
end
theorem pP {E : Env} {t : TypeId} {rows : Rows} {x ix : PV} {K : PV → Prop} : aV (fun v => fK E t rows x ix v) K = cB (E.ty t) rows x ix K := by
 simp only [fK, cB]
 cases E.ty t with
 | slice e n b z =>
  cases ix with
  | int kk k =>
   simp only
   rw [i9]
   congr 1
   cases x with
   | sl l =>
    simp only [aH, FA, bF]
    apply propext; simp only [aV]
    constructor
    ·rintro ⟨v, ⟨el, h1, h2, rfl⟩, h4⟩; exact ⟨h2, el, h1, h4⟩
    ·rintro ⟨h2, el, h1, h4⟩; exact ⟨_, ⟨el, h1, h2, rfl⟩, h4⟩
   | jN l =>
    simp only [aH, FA, bF]
    apply propext; simp only [aV]
    constructor
    ·rintro ⟨v, ⟨el, h1, h2, rfl⟩, h4⟩; exact ⟨h2, el, h1, h4⟩
    ·rintro ⟨h2, el, h1, h4⟩; exact ⟨_, ⟨el, h1, h2, rfl⟩, h4⟩
   | own id ver off len =>
    simp only [aH, bO]
    apply propext; simp only [aV]
    constructor
    ·rintro ⟨v, ⟨r, h1, h2, h3, h4, rfl⟩, h5⟩; exact ⟨r, h1, h2, ⟨h3, h4⟩, h5⟩
    ·rintro ⟨r, h1, h2, ⟨h3, h4⟩, h5⟩; exact ⟨_, ⟨r, h1, h2, h3, h4, rfl⟩, h5⟩
   | _ => simp [aV]
  | _ => simp [aV]
 | arr e m n z =>
  cases ix with
  | int kk k =>
   simp only
   rw [i9]
   congr 1
   cases x with
   | rd l =>
    simp only
    rw [i9, jR]
   | ptr id ver a j =>
    simp only [bO]
    apply propext; simp only [aV]
    constructor
    ·rintro ⟨v, ⟨⟨r, h1, h2⟩, rfl⟩, h3⟩; exact ⟨r, h1, h2, h3⟩
    ·rintro ⟨r, h1, h2, h3⟩; exact ⟨_, ⟨⟨r, h1, h2⟩, rfl⟩, h3⟩
   | _ => simp [aV]
  | _ => simp [aV]
 | _ => simp [aV]
def yL (d : Nat) (o : Option PV) (K : Nat → Prop) : Prop :=
 match o with
 | none => K d
 | some (.int _ k) => aH (0 ≤ k) (K k.toNat)
 | some _ => False
@[congr] theorem amT {d d' : Nat} {o o' : Option PV} {K : Nat → Prop} (h : d = d') (h2 : o = o') : yL d o K = yL d' o' K := by rw [h, h2]
@[simp] theorem ao2 {d : Nat} {K : Nat → Prop} : yL d none K = go (K d) := rfl
@[simp] theorem ao3 {d : Nat} {kk : IntKind} {k : Int} {K : Nat → Prop} : yL d (some (.int kk k)) K = aH (0 ≤ k) (K k.toNat) := rfl
theorem PO {d : Nat} {o : Option PV} {K : Nat → Prop} : yL d o K ↔ ∃ n, uR d o n ∧ K n := by
 cases o with
 | none => simp [yL, uR]
 | some p =>
  cases p with
  | int kk k =>
   simp only [yL, uR, aH]
   constructor
   ·rintro ⟨h1, h2⟩; exact ⟨_, ⟨h1, rfl⟩, h2⟩
   ·rintro ⟨n, ⟨h1, rfl⟩, h2⟩; exact ⟨h1, h2⟩
  | _ => simp [yL, uR]
def WG {α : Type} (mk mkx : List α → PV) (n : Nat) (l : List α) (ok : Prop) (lo hi mx : Option PV) (K : PV → Prop) : Prop :=
 yL 0 lo fun a => yL l.length hi fun b => aH (a ≤ b ∧ b ≤ l.length) (aH ok (match mx with
  | none => K (mk ((l.take b).drop a))
  | some m => yL 0 (some m) fun c => aH (b = c ∧ hi.isSome = true) (K (mkx ((l.take b).drop a)))))
def fQ (ti : TI) (rows : Rows) (x : PV) (lo hi mx : Option PV) (K : PV → Prop) : Prop :=
 match ti with
 | .slice _ n _ _ =>
  match x with
  | .nil => yL 0 lo fun a => yL 0 hi fun b => aH (a = 0 ∧ b = 0 ∧ mx.isNone = true) (K .nil)
  | .sl l => WG .sl .jN n l (bF n l) lo hi mx K
  | .jN l => WG .sl .jN n l (bF n l) lo hi mx K
  | .own id ver off len => bO (rows id) ver fun r => aH (r.size = n) (yL 0 lo fun a => yL len hi fun b => aH (a ≤ b ∧ b ≤ len ∧ mx.isNone = true) (K (.own id ver (off + a) (b - a))))
  | _ => False
 | _ => False
@[congr] theorem adR {t t' : TI} {rows : Rows} {x x' : PV} {lo lo' hi l6 mx mx' : Option PV} {K : PV → Prop} (h : t = t') (h2 : x = x') (h3 : lo = lo') (h4 : hi = l6) (h5 : mx = mx') : fQ t rows x lo hi mx K = fQ t' rows x' lo' l6 mx' K := by rw [h, h2, h3, h4, h5]
section
variable {α : Type} {g : α → List PV} {l : List α} {e n b : Nat} {z : List PV} {rows : Rows} {lo hi mx : Option PV} {K : PV → Prop} {els : List (List PV)} {id ver off len : Nat}
theorem KP {a b : Nat} : ((emap g l).take b).drop a = emap g ((l.take b).drop a) := by simp [emap]
@[simp] theorem ahe : fQ (.slice e n b z) rows (aI g l) lo hi none K = yL 0 lo fun a => yL l.length hi fun b => aH (a ≤ b ∧ b ≤ l.length) (aH (bF n (emap g l)) (K (aI g ((l.take b).drop a)))) := by
 simp only [fQ, aI, WG, KP]
 simp [emap]
theorem HE {m : PV} : fQ (.slice e n b z) rows (aI g l) lo hi (some m) K = yL 0 lo fun a => yL l.length hi fun b => aH (a ≤ b ∧ b ≤ l.length) (aH (bF n (emap g l)) (yL 0 (some m) fun c => aH (b = c ∧ hi.isSome = true) (K (.jN (emap g ((l.take b).drop a)))))) := by
 simp only [fQ, aI, WG, KP]
 simp [emap]
@[simp] theorem ahf : fQ (.slice e n b z) rows .nil lo hi mx K = yL 0 lo fun a => yL 0 hi fun b => aH (a = 0 ∧ b = 0 ∧ mx.isNone = true) (K .nil) := rfl
@[simp] theorem ahg : fQ (.slice e n b z) rows (.own id ver off len) lo hi mx K = bO (rows id) ver fun r => aH (r.size = n) (yL 0 lo fun a => yL len hi fun b => aH (a ≤ b ∧ b ≤ len ∧ mx.isNone = true) (K (.own id ver (off + a) (b - a)))) := rfl
end
theorem S7 {l : List (List PV)} {n : Nat} {lo hi mx : Option PV} {K : PV → Prop} : (∃ v, (∃ a b, uR 0 lo a ∧ uR l.length hi b ∧ a ≤ b ∧ b ≤ l.length ∧ (∀ e ∈ l, e.length = n) ∧ OA l a b hi mx v) ∧ K v) ↔ WG .sl .jN n l (bF n l) lo hi mx K := by
 simp only [WG, PO, aH, bF, OA]
 constructor
 ·rintro ⟨v, ⟨a, b, h1, h2, h3, h4, h5, h6⟩, h7⟩
  refine ⟨a, h1, b, h2, ⟨h3, h4⟩, h5, ?_⟩
  cases mx with
  | none => simp only at h6 ⊢; rw [← h6]; exact h7
  | some m => obtain ⟨c, q1, q2, q3, rfl⟩ := h6; exact ⟨c, q1, ⟨q2, q3⟩, h7⟩
 ·rintro ⟨a, h1, b, h2, ⟨h3, h4⟩, h5, h6⟩
  cases mx with
  | none => exact ⟨_, ⟨a, b, h1, h2, h3, h4, h5, rfl⟩, h6⟩
  | some m => obtain ⟨c, q1, ⟨q2, q3⟩, h7⟩ := h6; exact ⟨_, ⟨a, b, h1, h2, h3, h4, h5, c, q1, q2, q3, rfl⟩, h7⟩
theorem yM {E : Env} {t : TypeId} {rows : Rows} {x : PV} {lo hi mx : Option PV} {K : PV → Prop} : aV (fun v => nY E t rows x lo hi mx v) K = fQ (E.ty t) rows x lo hi mx K := by
 simp only [nY, fQ]
 cases E.ty t with
 | slice e n b z =>
  cases x with
  | sl l => exact propext S7
  | jN l => exact propext S7
  | nil =>
   simp only [PO, aH]
   apply propext; simp only [aV]
   constructor
   ·rintro ⟨v, ⟨a, b, h1, h2, h3, h4, h5, rfl⟩, h6⟩; exact ⟨a, h1, b, h2, ⟨h3, h4, h5⟩, h6⟩
   ·rintro ⟨a, h1, b, h2, ⟨h3, h4, h5⟩, h6⟩; exact ⟨_, ⟨a, b, h1, h2, h3, h4, h5, rfl⟩, h6⟩
  | own id ver off len =>
   simp only [PO, aH, bO]
   apply propext; simp only [aV]
   constructor
   ·rintro ⟨v, ⟨r, q1, q2, q3, a, b, h1, h2, h3, h4, h5, rfl⟩, h6⟩; exact ⟨r, q1, q2, q3, a, h1, b, h2, ⟨h3, h4, h5⟩, h6⟩
   ·rintro ⟨r, q1, q2, q3, a, h1, b, h2, ⟨h3, h4, h5⟩, h6⟩; exact ⟨_, ⟨r, q1, q2, q3, a, b, h1, h2, h3, h4, h5, rfl⟩, h6⟩
  | _ => simp [aV]
 | _ => simp [aV]
def s6 (rows : Rows) (x : PV) (K : PV → Prop) : Prop :=
 match x with
 | .rd l => K (.rd l)
 | .ptr id ver i j => bO (rows id) ver fun _ => K (.ptr id ver i j)
 | _ => False
@[congr] theorem ahh {rows : Rows} {x x' : PV} {K : PV → Prop} (h : x = x') : s6 rows x K = s6 rows x' K := by rw [h]
@[simp] theorem ao4 {rows : Rows} {l : List PV} {K : PV → Prop} : s6 rows (.rd l) K = go (K (.rd l)) := rfl
@[simp] theorem amU {rows : Rows} {id ver i j : Nat} {K : PV → Prop} : s6 rows (.ptr id ver i j) K = bO (rows id) ver fun _ => K (.ptr id ver i j) := rfl
theorem FB {rows : Rows} {x : PV} {K : PV → Prop} : aV (fun v => D5 rows x v) K = s6 rows x K := by
 simp only [D5, s6]
 cases x with
 | rd l => dsimp only; rw [jR]
 | ptr id ver i j =>
  simp only [bO]
  apply propext; simp only [aV]
  constructor
  ·rintro ⟨v, ⟨⟨r, h1, h2⟩, rfl⟩, h3⟩; exact ⟨r, h1, h2, h3⟩
  ·rintro ⟨r, h1, h2, h3⟩; exact ⟨_, ⟨⟨r, h1, h2⟩, rfl⟩, h3⟩
 | _ => simp [aV]
def l7 (ti : TI) (rows : Rows) (x : PV) (K : PV → Prop) : Prop :=
 match ti with
 | .slice _ _ _ _ => match x with
  | .nil => K (.int .i64 0)
  | .sl l => K (.int .i64 l.length)
  | .jN l => K (.int .i64 l.length)
  | .own id ver _ len => bO (rows id) ver fun _ => K (.int .i64 len)
  | _ => False
 | _ => False
@[congr] theorem ahj {t t' : TI} {rows : Rows} {x x' : PV} {K : PV → Prop} (h : t = t') (h2 : x = x') : l7 t rows x K = l7 t' rows x' K := by rw [h, h2]
section
variable {α : Type} {g : α → List PV} {l : List α} {e n b : Nat} {z : List PV} {rows : Rows} {K : PV → Prop} {els : List (List PV)} {id ver off len : Nat}
@[simp] theorem amV : l7 (.slice e n b z) rows (aI g l) K = go (K (.int .i64 l.length)) := by show _ = K _; simp [l7, aI, emap]
@[simp] theorem amW : l7 (.slice e n b z) rows .nil K = go (K (.int .i64 0)) := rfl
@[simp] theorem ao5 : l7 (.slice e n b z) rows (.sl els) K = go (K (.int .i64 els.length)) := rfl
@[simp] theorem amX : l7 (.slice e n b z) rows (.jN els) K = go (K (.int .i64 els.length)) := rfl
@[simp] theorem amY : l7 (.slice e n b z) rows (.own id ver off len) K = bO (rows id) ver fun _ => K (.int .i64 len) := rfl
end
theorem FC {ti : TI} {rows : Rows} {x : PV} {K : PV → Prop} : aV (fun v => x7 ti rows x v) K = l7 ti rows x K := by
 simp only [x7, l7]
 cases ti with
 | slice e n b z =>
  apply propext; simp only [aV, VO]
  cases x with
  | own id ver off len =>
   simp only [bO]
   constructor
   ·rintro ⟨v, ⟨n, ⟨⟨r, h1, h2⟩, rfl⟩, rfl⟩, h4⟩; exact ⟨r, h1, h2, h4⟩
   ·rintro ⟨r, h1, h2, h4⟩; exact ⟨_, ⟨_, ⟨⟨r, h1, h2⟩, rfl⟩, rfl⟩, h4⟩
  | _ => simp
 | _ => simp [aV]
def iK (els : List (List PV)) (i j : Nat) (l : List PV) : List (List PV) := els.set i (((els[i]?).getD []).take j ++ l ++ ((els[i]?).getD []).drop (j + l.length))
def s7 (els : List (List PV)) (i n : Nat) : Prop := ∃ el, els[i]? = some el ∧ n ≤ el.length
def gW (rows : Rows) (l : List PV) : Prop := ∀ q ∈ l, iQ rows q
@[simp] theorem ajA {rows : Rows} : gW rows [] = True := by simp [gW]
@[simp] theorem ahk {rows : Rows} {p : PV} {l : List PV} : gW rows (p :: l) = (iQ rows p ∧ gW rows l) := by simp [gW]
@[simp] theorem ajB {α : Type} [Inhabited α] {g : α → List PV} {l : List α} {i n : Nat} : s7 (emap g l) i n = (i < l.length ∧ n ≤ (g (nth l i)).length) := by
 exact KN (g := g) (l := l) (i := i) (K := fun el => n ≤ el.length)
def jT (E : Env) (t : TypeId) (rows : Rows) (p x : PV) (K : Nat → Row → Prop) : Prop :=
 aH ((E.ty t).known = true) (match p with
 | .ptr id ver i j => bO (rows id) ver fun r => fN (bW x) fun l => aH (s7 r.els i (j + l.length) ∧ gW rows l ∧ l.length = (E.ty t).size) (K id ⟨ver, r.e, r.size, iK r.els i j l⟩)
 | _ => False)
@[congr] theorem adS {E : Env} {t : TypeId} {rows : Rows} {p p' x x' : PV} {K : Nat → Row → Prop} (h1 : p = p') (h2 : x = x') : jT E t rows p x K = jT E t rows p' x' K := by rw [h1, h2]
@[simp] theorem ahl {E : Env} {t : TypeId} {rows : Rows} {id ver i j : Nat} {x : PV} {K : Nat → Row → Prop} : jT E t rows (.ptr id ver i j) x K = aH ((E.ty t).known = true) (bO (rows id) ver fun r => fN (bW x) fun l => aH (s7 r.els i (j + l.length) ∧ gW rows l ∧ l.length = (E.ty t).size) (K id ⟨ver, r.e, r.size, iK r.els i j l⟩)) := rfl
theorem FD {E : Env} {t : TypeId} {rows : Rows} {p x : PV} {K : Nat → Row → Prop} : (∃ id r, qF E t rows p x .undef (some (id, r)) ∧ K id r) = jT E t rows p x K := by
 simp only [qF, jT, aH, bO, fN, s7, gW]
 apply propext
 constructor
 ·rintro ⟨id, r, ⟨h1, _, h2⟩, h3⟩
  refine ⟨h1, ?_⟩
  split at h2
  ·obtain ⟨r0, q1, q2, el, q3, l, q4, q5, q6, q7, q8⟩ := h2
   simp only [Option.some.injEq, Prod.mk.injEq] at q8
   obtain ⟨rfl, rfl⟩ := q8
   refine ⟨r0, q1, q2, l, q4, ⟨⟨el, q3, q7⟩, q5, q6⟩, ?_⟩
   simp only [iK, q3, Option.getD_some]
   rw [q2] at h3
   exact h3
  ·exact h2.elim
 ·rintro ⟨h1, h2⟩
  split at h2
  ·obtain ⟨r0, q1, q2, l, q4, ⟨⟨el, q3, q7⟩, q5, q6⟩, h3⟩ := h2
   simp only [iK, q3, Option.getD_some] at h3
   refine ⟨_, _, ⟨h1, trivial, r0, q1, q2, el, q3, l, q4, q5, q6, q7, rfl⟩, ?_⟩
   rw [← q2] at h3
   exact h3
  ·exact h2.elim
def j9 (rows : Rows) (y : PV) (K : List (List PV) → Prop) : Prop :=
 match y with
 | .nil => K []
 | .sl k => K k
 | .jN k => K k
 | .own id ver off len => bO (rows id) ver fun r => K ((r.els.drop off).take len)
 | _ => False
@[congr] theorem ahm {rows : Rows} {y y' : PV} {K : List (List PV) → Prop} (h : y = y') : j9 rows y K = j9 rows y' K := by rw [h]
@[simp] theorem amZ {rows : Rows} {K : List (List PV) → Prop} : j9 rows .nil K = go (K []) := rfl
@[simp] theorem ao6 {rows : Rows} {l : List (List PV)} {K : List (List PV) → Prop} : j9 rows (.sl l) K = go (K l) := rfl
@[simp] theorem am0 {α : Type} {g : α → List PV} {rows : Rows} {l : List α} {K : List (List PV) → Prop} : j9 rows (aI g l) K = go (K (emap g l)) := rfl
@[simp] theorem am1 {rows : Rows} {l : List (List PV)} {K : List (List PV) → Prop} : j9 rows (.jN l) K = go (K l) := rfl
@[simp] theorem am2 {rows : Rows} {id ver off len : Nat} {K : List (List PV) → Prop} : j9 rows (.own id ver off len) K = bO (rows id) ver fun r => K ((r.els.drop off).take len) := rfl
theorem S8 {rows : Rows} {y : PV} {K : List (List PV) → Prop} : (∃ l, u2 rows y l ∧ K l) = j9 rows y K := by
 simp only [u2, j9]
 apply propext
 cases y with
 | own id ver off len =>
  simp only [bO]
  constructor
  ·rintro ⟨l, ⟨r, h1, h2, rfl⟩, h3⟩; exact ⟨r, h1, h2, h3⟩
  ·rintro ⟨r, h1, h2, h3⟩; exact ⟨_, ⟨r, h1, h2, rfl⟩, h3⟩
 | _ => simp
def qM (t : TI) (rows : Rows) (x y : PV) (clk d : Nat) (K : PV → Rows → Nat → Prop) : Prop :=
 match t with
 | .slice e n b _ => j9 rows y fun l => aH (bF n l) (match x with
  | .nil => aH (l.length ≤ room ∧ l.length * b ≤ room) (K (.own d clk 0 l.length) (dZ rows d (some ⟨clk, e, n, l⟩)) (clk + 1))
  | .own id ver off len => bO (rows id) ver fun r => aH (off = 0 ∧ len = r.els.length ∧ r.e = e ∧ r.size = n) (aH (len + l.length ≤ room ∧ (len + l.length) * b ≤ room) (K (.own id clk 0 (len + l.length)) (dZ rows id (some ⟨clk, e, n, r.els ++ l⟩)) (clk + 1)))
  | .jN l0 => aH (bF n l0 ∧ ∀ e ∈ l, ∀ p ∈ e, cM p = true) (aH (l0.length + l.length ≤ room ∧ (l0.length + l.length) * b ≤ room) (K (.sl (l0 ++ l)) rows clk))
  | _ => False)
 | _ => False
@[congr] theorem ahn {t t' : TI} {rows : Rows} {x x' y y' : PV} {clk d : Nat} {K : PV → Rows → Nat → Prop} (h1 : t = t') (h3 : x = x') (h4 : y = y') :
  qM t rows x y clk d K = qM t' rows x' y' clk d K := by rw [h1, h3, h4]
section
variable {e n b clk d id ver off len : Nat} {z : List PV} {rows : Rows} {y : PV} {K : PV → Rows → Nat → Prop} {l0 : List (List PV)}
@[simp] theorem am3 : qM (.slice e n b z) rows .nil y clk d K = j9 rows y fun l => aH (bF n l) (aH (l.length ≤ room ∧ l.length * b ≤ room) (K (.own d clk 0 l.length) (dZ rows d (some ⟨clk, e, n, l⟩)) (clk + 1))) := rfl
@[simp] theorem am4 : qM (.slice e n b z) rows (.own id ver off len) y clk d K = j9 rows y fun l => aH (bF n l) (bO (rows id) ver fun r => aH (off = 0 ∧ len = r.els.length ∧ r.e = e ∧ r.size = n) (aH (len + l.length ≤ room ∧ (len + l.length) * b ≤ room) (K (.own id clk 0 (len + l.length)) (dZ rows id (some ⟨clk, e, n, r.els ++ l⟩)) (clk + 1)))) := rfl
@[simp] theorem am5 : qM (.slice e n b z) rows (.jN l0) y clk d K = j9 rows y fun l => aH (bF n l) (aH (bF n l0 ∧ ∀ e ∈ l, ∀ p ∈ e, cM p = true) (aH (l0.length + l.length ≤ room ∧ (l0.length + l.length) * b ≤ room) (K (.sl (l0 ++ l)) rows clk))) := rfl
end
theorem aeB {t : TI} {rows : Rows} {x y : PV} {clk d : Nat} {K : PV → Rows → Nat → Prop} : V8 t rows x y clk d K = qM t rows x y clk d K := by
 unfold V8 qM
 cases t with
 | slice e n b z =>
  dsimp only
  rw [← S8]
  congr 1; funext l; congr 1
  simp only [aH, bF]
  congr 1
  cases x with
  | own id ver off len => simp only [bO, and_assoc]
  | jN l0 => simp only [bF, and_assoc]
  | _ => rfl
 | _ => rfl
def fzR (o : Option Row) (ver off len : Nat) : PV :=
 match o with
 | some r => if r.ver = ver then .sl ((r.els.drop off).take len) else .undef
 | none => .undef
@[simp] theorem auW {rows : Rows} {id ver off len : Nat} : fz rows (.own id ver off len) = fzR (rows id) ver off len := rfl
@[simp] theorem ao7 {α : Type} {g : α → List PV} {l : List α} {ver e n off len : Nat} : fzR (some ⟨ver, e, n, emap g l⟩) ver off len = aI g ((l.drop off).take len) := by simp [fzR, aI, emap]
@[simp] theorem auX {rows : Rows} : fz rows .nil = .sl [] := rfl
@[simp] theorem auY {rows : Rows} {l : List (List PV)} : fz rows (.jN l) = .sl l := rfl
@[simp] theorem axY {rows : Rows} {l : List (List PV)} : fz rows (.sl l) = .sl l := rfl
@[simp] theorem auZ {α : Type} {g : α → List PV} {rows : Rows} {l : List α} : fz rows (aI g l) = aI g l := rfl
@[simp] theorem au0 {rows : Rows} {k : IntKind} {n : Int} : fz rows (.int k n) = .int k n := rfl
@[simp] theorem asW {rows : Rows} {b : Bool} : fz rows (.bool b) = .bool b := rfl
@[simp] theorem axZ {rows : Rows} {f : FuncId} {l : List PV} : fz rows (.fn f l) = .fn f l := rfl
@[simp] theorem au1 {rows : Rows} {id ver off len : Nat} : pz rows (.own id ver off len) = fzR (rows id) ver off len := rfl
@[simp] theorem au2 {rows : Rows} : pz rows .nil = .sl [] := rfl
@[simp] theorem au3 {rows : Rows} {l : List (List PV)} : pz rows (.jN l) = .sl l := rfl
@[simp] theorem ax0 {rows : Rows} {l : List (List PV)} : pz rows (.sl l) = .sl l := rfl
@[simp] theorem au4 {α : Type} {g : α → List PV} {rows : Rows} {l : List α} : pz rows (aI g l) = aI g l := rfl
@[simp] theorem au5 {rows : Rows} {k : IntKind} {n : Int} : pz rows (.int k n) = .int k n := rfl
@[simp] theorem asX {rows : Rows} {b : Bool} : pz rows (.bool b) = .bool b := rfl
@[simp] theorem ax1 {rows : Rows} {f : FuncId} {l : List PV} : pz rows (.fn f l) = .fn f l := rfl
@[simp] theorem ax2 {rows : Rows} {l : List PV} : pz rows (.ag l) = .ag (l.map (fz rows)) := rfl
@[simp] theorem ao8 {α : Type} {g : α → List PV} {l : List α} : fW (aI g l) = true := rfl
@[simp] theorem am7 {α : Type} {g : α → List PV} {l : List α} : cM (aI g l) = true := rfl
@[simp] theorem asY {α : Type} {g : α → List PV} {l : List α} : a9 (aI g l) = [] := rfl
@[simp] theorem ao9 {α : Type} {g : α → List PV} {l : List α} : dX (aI g l) = [] := rfl
@[simp] theorem asZ {l : List (List PV)} : dX (.sl l) = [] := rfl
@[simp] theorem apa {l : List (List PV)} : dX (.jN l) = [] := rfl
@[simp] theorem apb {k : IntKind} {n : Int} : dX (.int k n) = [] := rfl
@[simp] theorem am8 {b : Bool} : dX (.bool b) = [] := rfl
@[simp] theorem as0 {f : FuncId} {l : List PV} : dX (.fn f l) = [] := rfl
@[simp] theorem apc : dX .nil = [] := rfl
@[simp] theorem apd {id ver off len : Nat} : dX (.own id ver off len) = [id] := rfl
@[simp] theorem as1 {l : List PV} : dX (.ag l) = l.flatMap a9 := rfl
@[simp] theorem ape {α : Type} {g : α → List PV} {rows : Rows} {l : List α} : iQ rows (aI g l) = True := rfl
@[simp] theorem ajC {α : Type} {g : α → List PV} {l : List α} : bW (aI g l) = some [aI g l] := rfl
@[simp] theorem ajD {α : Type} {g : α → List PV} {l : List α} : fA (aI g l) = some [aI g l] := rfl
def dC (o : Option Row) : Prop := ∀ r, o = some r → ∀ e ∈ r.els, ∀ p ∈ e, cM p = true
@[simp] theorem aeC {rows : Rows} : eF rows [] = True := by simp [eF]
@[simp] theorem adT {rows : Rows} {id : Nat} {ids : List Nat} : eF rows (id :: ids) = (dC (rows id) ∧ eF rows ids) := by simp [eF, dC]
@[simp] theorem aeD : dC none = True := by simp [dC]
@[simp] theorem cY {α : Type} {g : α → List PV} {l : List α} {ver e n : Nat} (h : aoX g) : dC (some ⟨ver, e, n, emap g l⟩) = True := by
 simp only [dC, emap, Option.some.injEq, eq_iff_iff, iff_true]
 rintro r rfl e he p hp
 simp at he
 obtain ⟨x, _, rfl⟩ := he
 exact List.all_eq_true.1 (h x) p hp
@[simp] theorem as2 {rows : Rows} : E3 rows [] = rows := by funext j; simp [E3]
@[simp] theorem au6 {rows : Rows} {ids : List Nat} {j : Nat} : E3 rows ids j = if j ∈ ids then none else rows j := rfl
def mM (fs : List (Nat × Nat × Bool)) : List (Nat × PV) → List PV → (List PV → Prop) → Prop
 | [], z, K => K z
 | (i, p) :: ps, z, K => fN (lU fs i) fun q => fN (fA p) fun l => aH (l.length = q.2.1 ∧ q.1 + q.2.1 ≤ z.length) (mM fs ps (z.take q.1 ++ l ++ z.drop (q.1 + q.2.1)) K)
@[congr] theorem aho {fs : List (Nat × Nat × Bool)} {ps S9 : List (Nat × PV)} {z z' : List PV} {K : List PV → Prop} (h : ps = S9) (h2 : z = z') : mM fs ps z K = mM fs S9 z' K := by rw [h, h2]
@[simp] theorem am9 {fs : List (Nat × Nat × Bool)} {z : List PV} {K : List PV → Prop} : mM fs [] z K = go (K z) := rfl
@[simp] theorem ajE {fs : List (Nat × Nat × Bool)} {i : Nat} {p : PV} {ps : List (Nat × PV)} {z : List PV} {K : List PV → Prop} : mM fs ((i, p) :: ps) z K = fN (lU fs i) fun q => fN (fA p) fun l => aH (l.length = q.2.1 ∧ q.1 + q.2.1 ≤ z.length) (mM fs ps (z.take q.1 ++ l ++ z.drop (q.1 + q.2.1)) K) := rfl
theorem BH {fs : List (Nat × Nat × Bool)} : ∀ {ps : List (Nat × PV)} {z : List PV} {K : List PV → Prop}, (∃ l, sS fs ps z = some l ∧ K l) ↔ mM fs ps z K
 | [], z, K => by simp [sS, mM]
 | (i, p) :: ps, z, K => by
  simp only [sS, mM, fN, aH, lU]
  cases h1 : fs[i]? with
  | none => simp
  | some q =>
   obtain ⟨o, n, b⟩ := q
   cases h2 : fA p with
   | none => simp
   | some l =>
    simp only [Option.some.injEq, exists_eq_left']
    rw [← BH]
    split
    ·rename_i h; simp [h]
    ·rename_i h; simp [h]
def kZ (ti : TI) (ps : List (Nat × PV)) (K : PV → Prop) : Prop :=
 match ti with
 | .struct fs z => mM fs ps z fun l => K (.ag l)
 | .arr _ k n z => mM (OC k n) ps z fun l => K (.ag l)
 | _ => False
@[congr] theorem adU {t t' : TI} {ps S9 : List (Nat × PV)} {K : PV → Prop} (h : t = t') (h2 : ps = S9) : kZ t ps K = kZ t' S9 K := by rw [h, h2]
@[simp] theorem aaD {fs : List (Nat × Nat × Bool)} {z : List PV} {ps : List (Nat × PV)} {K : PV → Prop} : kZ (.struct fs z) ps K = mM fs ps z fun l => K (.ag l) := rfl
@[simp] theorem ahp {e k n : Nat} {z : List PV} {ps : List (Nat × PV)} {K : PV → Prop} : kZ (.arr e k n z) ps K = mM (OC k n) ps z fun l => K (.ag l) := rfl
@[simp] theorem ana {k n i : Nat} : lU (OC k n) i = if i < k then some (i * n, n, false) else none := by
 unfold lU OC
 rw [List.getElem?_map]
 split
 ·rename_i h; rw [List.getElem?_range h]; rfl
 ·rename_i h; rw [List.getElem?_eq_none (by simpa using h)]; rfl
theorem yN {ti : TI} {ps : List (Nat × PV)} {K : PV → Prop} : aV (fun v => qB ti ps v) K = kZ ti ps K := by
 simp only [qB, kZ]
 cases ti with
 | struct fs z =>
  apply propext; simp only [aV]
  rw [← BH]
  constructor
  ·rintro ⟨v, ⟨l, h1, rfl⟩, h2⟩; exact ⟨l, h1, h2⟩
  ·rintro ⟨l, h1, h2⟩; exact ⟨_, ⟨l, h1, rfl⟩, h2⟩
 | arr e k n z =>
  apply propext; simp only [aV]
  rw [← BH]
  constructor
  ·rintro ⟨v, ⟨l, h1, rfl⟩, h2⟩; exact ⟨l, h1, h2⟩
  ·rintro ⟨l, h1, h2⟩; exact ⟨_, ⟨l, h1, rfl⟩, h2⟩
 | _ => simp [aV]
def iZ (n : Nat) : Nat → List (Nat × PV) → (List (List PV) → Prop) → Prop
 | _, [], K => K []
 | k, (i, p) :: ps, K => fN (bW p) fun l => aH (i = k ∧ l.length = n) (iZ n (k + 1) ps fun els => K (l :: els))
@[congr] theorem aeE {n k : Nat} {ps S9 : List (Nat × PV)} {K : List (List PV) → Prop} (h : ps = S9) : iZ n k ps K = iZ n k S9 K := by rw [h]
@[simp] theorem ajF {n k : Nat} {K : List (List PV) → Prop} : iZ n k [] K = go (K []) := rfl
@[simp] theorem ahq {n k i : Nat} {p : PV} {ps : List (Nat × PV)} {K : List (List PV) → Prop} : iZ n k ((i, p) :: ps) K = fN (bW p) fun l => aH (i = k ∧ l.length = n) (iZ n (k + 1) ps fun els => K (l :: els)) := rfl
theorem w7 {n : Nat} : ∀ {ps : List (Nat × PV)} {k : Nat} {K : List (List PV) → Prop}, (∃ l, gU n k ps = some l ∧ K l) ↔ iZ n k ps K
 | [], k, K => by simp [gU, iZ]
 | (i, p) :: ps, k, K => by
  simp only [gU, iZ, fN, aH]
  cases h2 : bW p with
  | none => simp
  | some l =>
   simp only [Option.some.injEq, exists_eq_left']
   rw [← w7]
   by_cases h : i = k ∧ l.length = n
   ·rw [if_pos h]
    constructor
    ·rintro ⟨e, h1, h3⟩
     obtain ⟨e', h4, rfl⟩ := Option.map_eq_some_iff.1 h1
     exact ⟨h, e', h4, h3⟩
    ·rintro ⟨_, e', h4, h3⟩
     exact ⟨_, by rw [h4]; rfl, h3⟩
   ·rw [if_neg h]; simp [h]
def BI (rows : Rows) (els : List (List PV)) : Prop := (∀ e ∈ els, ∀ p ∈ e, cM (fz rows p) = true ∧ iQ rows p) ∧ (∀ e ∈ els, ∀ p ∈ e, a9 p = [])
@[simp] theorem anb {rows : Rows} : BI rows [] = True := by simp [BI]
@[simp] theorem ajG {rows : Rows} {e : List PV} {els : List (List PV)} : BI rows (e :: els) = ((∀ p ∈ e, cM (fz rows p) = true ∧ iQ rows p ∧ a9 p = []) ∧ BI rows els) := by
 simp only [BI, List.mem_cons, forall_eq_or_imp, eq_iff_iff]
 constructor
 ·rintro ⟨⟨h1, h2⟩, h3, h4⟩; exact ⟨fun p hp => ⟨(h1 p hp).1, (h1 p hp).2, h3 p hp⟩, h2, h4⟩
 ·rintro ⟨h1, h2, h4⟩; exact ⟨⟨fun p hp => ⟨(h1 p hp).1, (h1 p hp).2.1⟩, h2⟩, fun p hp => (h1 p hp).2.2, h4⟩
def u7 (ti : TI) (rows : Rows) (len : Nat) (ps : List (Nat × PV)) (K : PV → Prop) : Prop :=
 match ti with
 | .slice _ n _ _ => iZ n 0 ps fun els => aH (len = els.length ∧ len ≤ 4096 ∧ n ≤ 4096 ∧ BI rows els) (K (.jN (els.map fun e => e.map (fz rows))))
 | _ => False
@[congr] theorem ahr {t t' : TI} {rows : Rows} {len : Nat} {ps S9 : List (Nat × PV)} {K : PV → Prop} (h : t = t') (h2 : ps = S9) : u7 t rows len ps K = u7 t' rows len S9 K := by rw [h, h2]
@[simp] theorem aht {e n b : Nat} {z : List PV} {rows : Rows} {len : Nat} {ps : List (Nat × PV)} {K : PV → Prop} : u7 (.slice e n b z) rows len ps K = iZ n 0 ps fun els => aH (len = els.length ∧ len ≤ 4096 ∧ n ≤ 4096 ∧ BI rows els) (K (.jN (els.map fun e => e.map (fz rows)))) := rfl
theorem FE {ti : TI} {rows : Rows} {len : Nat} {ps : List (Nat × PV)} {K : PV → Prop} : aV (fun v => OR ti rows len ps v) K = u7 ti rows len ps K := by
 simp only [OR, u7]
 cases ti with
 | slice e n b z =>
  apply propext; simp only [aV]
  rw [← w7]
  constructor
  ·rintro ⟨v, ⟨l, h1, h2, h3, h4, h5, h6, rfl⟩, h7⟩; exact ⟨l, h1, ⟨h2, h3, h4, h5, h6⟩, h7⟩
  ·rintro ⟨l, h1, ⟨h2, h3, h4, h5, h6⟩, h7⟩; exact ⟨_, ⟨l, h1, h2, h3, h4, h5, h6, rfl⟩, h7⟩
 | _ => simp [aV]
def u9 (i : Nat) (x : PV) (K : PV → Prop) : Prop :=
 match x with
 | .fH l => fN (lU l i) K
 | _ => False
@[congr] theorem ahu {i : Nat} {x x' : PV} {K : PV → Prop} (h : x = x') : u9 i x K = u9 i x' K := by rw [h]
@[simp] theorem anc {i : Nat} {l : List PV} {K : PV → Prop} : u9 i (.fH l) K = fN (lU l i) K := rfl
theorem FF {i : Nat} {x : PV} {K : PV → Prop} : aV (fun v => OB i x v) K = u9 i x K := by
 simp only [OB, u9]
 cases x <;> first | rfl | simp [aV]
def EE : List Oper → Nat → Option Tmp
 | [], _ => none
 | o :: _, 0 => o.dst
 | _ :: os, n + 1 => EE os n
theorem HF : ∀ (ops : List Oper) (j : Nat), EE ops j = (ops[j]?).bind (·.dst)
 | [], j => by simp [EE]
 | o :: os, 0 => by simp [EE]
 | o :: os, n + 1 => by simp [EE, HF os n]
@[simp] theorem ane {d : Option Tmp} {op : Op} {ty : TypeId} {pos : String} {af : Array Edge} {g : Option (Nat × Bool)} {os : List Oper} : EE (⟨d, op, ty, pos, af, g⟩ :: os) 0 = d := rfl
@[simp] theorem anf {o : Oper} {os : List Oper} {n : Nat} : EE (o :: os) (n + 1) = EE os n := rfl
def o0 (o : Option Tmp) (f : Nat → PV) (w : Bool) (A B : Prop) : Prop :=
 match o with
 | none => False
 | some e => stepG (f e) w A B
@[congr] theorem aeF {o o' : Option Tmp} {f : Nat → PV} {w : Bool} {A B : Prop} (h : o = o') : o0 o f w A B = o0 o' f w A B := by rw [h]
@[simp] theorem ahw {e : Tmp} {f : Nat → PV} {w : Bool} {A B : Prop} : o0 (some e) f w A B = stepG (f e) w A B := rfl
@[simp] theorem ang {o : Option Tmp} {f : Nat → PV} {w : Bool} {A B : Prop} : go (o0 o f w A B) = o0 o f w A B := rfl
section
variable {E : Env} {ops os : List Oper} {K : PS → Prop} {f : Nat → PV} {rows : Rows} {clk : Nat} {d : Option Tmp} {ty : TypeId} {pos : String} {af : Array Edge} {k : Nat} {bS : Nat → Nat → Prop} {aP : Nat → Nat → Prop}
theorem KQ {op : Op} {j : Nat} {want : Bool} : aM E ops (⟨d, op, ty, pos, af, some (j, want)⟩ :: os) K ⟨f, rows, clk⟩ = o0 ((ops[j]?).bind (·.dst)) f want (aM E ops (⟨d, op, ty, pos, af, none⟩ :: os) K ⟨f, rows, clk⟩) (aM E ops os K ⟨put f d (.fH []), rows, clk⟩) := O7
theorem KR {op : Op} {j : Nat} {want : Bool} : aO E ops clk k (⟨d, op, ty, pos, af, some (j, want)⟩ :: os) K ⟨f, rows, bS, aP⟩ = o0 ((ops[j]?).bind (·.dst)) f want (aO E ops clk k (⟨d, op, ty, pos, af, none⟩ :: os) K ⟨f, rows, bS, aP⟩) (aO E ops clk (k + 1) os K ⟨put f d (.fH []), rows, bS, aP⟩) := PG
end
section
variable {E : Env} {ops os : List Oper} {K : PS → Prop} {f : Nat → PV} {rows : Rows} {clk : Nat} {d : Option Tmp} {ty : TypeId} {pos : String} {af : Array Edge} {k : Nat} {bS : Nat → Nat → Prop} {aP : Nat → Nat → Prop}
theorem PQ {t : TypeId} {x : Operand} : aM E ops (⟨d, .load t x, ty, pos, af, none⟩ :: os) K ⟨f, rows, clk⟩ = kI E t rows (aR f x) fun v => aM E ops os K ⟨put f d v, rows, clk⟩ := by rw [V7, tQ]
theorem KS {t : TypeId} {i : Nat} {x : Operand} : aM E ops (⟨d, .field t x i, ty, pos, af, none⟩ :: os) K ⟨f, rows, clk⟩ = jS (E.ty t) i (aR f x) fun v => aM E ops os K ⟨put f d v, rows, clk⟩ := by rw [O8, yK]
theorem zF {t : TypeId} {i : Nat} {x : Operand} : aM E ops (⟨d, .fieldAddr t x i, ty, pos, af, none⟩ :: os) K ⟨f, rows, clk⟩ = dR (E.ty t) rows i (aR f x) fun v => aM E ops os K ⟨put f d v, rows, clk⟩ := by rw [BB, pO]
theorem zG {t : TypeId} {x y : Operand} : aM E ops (⟨d, .indexAddr t x y, ty, pos, af, none⟩ :: os) K ⟨f, rows, clk⟩ = cB (E.ty t) rows (aR f x) (aR f y) fun v => aM E ops os K ⟨put f d v, rows, clk⟩ := by rw [BC, pP]
theorem KT {t : TypeId} {x : Operand} {lo hi mx : Option Operand} : aM E ops (⟨d, .slice t x lo hi mx, ty, pos, af, none⟩ :: os) K ⟨f, rows, clk⟩ = fQ (E.ty t) rows (aR f x) (lo.map (aR f)) (hi.map (aR f)) (mx.map (aR f)) fun v => aM E ops os K ⟨put f d v, rows, clk⟩ := by rw [O9, yM]
theorem WH {t : TypeId} {x : Operand} : aM E ops (⟨d, .call { callee := .builtin .len, args := ⟨[x]⟩, argTypes := ⟨[t]⟩ }, ty, pos, af, none⟩ :: os) K ⟨f, rows, clk⟩ = l7 (E.ty t) rows (aR f x) fun v => aM E ops os K ⟨put f d v, rows, clk⟩ := by rw [aar, FC]
theorem KU {t : TypeId} {p x : Operand} : aM E ops (⟨none, .store t p x, ty, pos, af, none⟩ :: os) K ⟨f, rows, clk⟩ = jT E t rows (aR f p) (aR f x) fun id r => aM E ops os K ⟨f, dZ rows id (some r), clk⟩ := by rw [PE, FD]
theorem HG {t t2 : TypeId} {x y : Operand} : aM E ops (⟨d, .call { callee := .builtin .append, args := ⟨[x, y]⟩, argTypes := ⟨[t, t2]⟩ }, ty, pos, af, none⟩ :: os) K ⟨f, rows, clk⟩ =
  aH (t2 = t ∨ ZN (E.ty t2) = true) (qM (E.ty t) rows (aR f x) (aR f y) clk (d.getD 0) fun v rows clk => aM E ops os K ⟨put f d v, rows, clk⟩) := by rw [KJ, aeB]
theorem PR {t : TypeId} {x : Operand} : aO E ops clk k (⟨d, .load t x, ty, pos, af, none⟩ :: os) K ⟨f, rows, bS, aP⟩ = kI E t (eG .any ops k aP rows) (aR f x) fun v => aO E ops clk (k + 1) os K ⟨put f d v, rows, lF k (a9 (aR f x)) bS, aP⟩ := by rw [WD, tQ]
theorem KV {t : TypeId} {i : Nat} {x : Operand} : aO E ops clk k (⟨d, .field t x i, ty, pos, af, none⟩ :: os) K ⟨f, rows, bS, aP⟩ = jS (E.ty t) i (aR f x) fun v => aO E ops clk (k + 1) os K ⟨put f d v, rows, bS, aP⟩ := by rw [PH, yK]
theorem zH {t : TypeId} {i : Nat} {x : Operand} : aO E ops clk k (⟨d, .fieldAddr t x i, ty, pos, af, none⟩ :: os) K ⟨f, rows, bS, aP⟩ = dR (E.ty t) (eG .any ops k aP rows) i (aR f x) fun v => aO E ops clk (k + 1) os K ⟨put f d v, rows, lF k (a9 (aR f x)) bS, aP⟩ := by rw [BE, pO]
theorem zI {t : TypeId} {x y : Operand} : aO E ops clk k (⟨d, .indexAddr t x y, ty, pos, af, none⟩ :: os) K ⟨f, rows, bS, aP⟩ = cB (E.ty t) (eG .any ops k aP rows) (aR f x) (aR f y) fun v => aO E ops clk (k + 1) os K ⟨put f d v, rows, lF k (a9 (aR f x)) bS, aP⟩ := by rw [BF, pP]
theorem KW {t : TypeId} {x : Operand} {lo hi mx : Option Operand} : aO E ops clk k (⟨d, .slice t x lo hi mx, ty, pos, af, none⟩ :: os) K ⟨f, rows, bS, aP⟩ = fQ (E.ty t) (eG .any ops k aP rows) (aR f x) (lo.map (aR f)) (hi.map (aR f)) (mx.map (aR f)) fun v => aO E ops clk (k + 1) os K ⟨put f d v, rows, lF k (a9 (aR f x)) bS, aP⟩ := by rw [PJ, yM]
theorem WI {t : TypeId} {x : Operand} : aO E ops clk k (⟨d, .call { callee := .builtin .len, args := ⟨[x]⟩, argTypes := ⟨[t]⟩ }, ty, pos, af, none⟩ :: os) K ⟨f, rows, bS, aP⟩ = l7 (E.ty t) (eG .any ops k aP rows) (aR f x) fun v => aO E ops clk (k + 1) os K ⟨put f d v, rows, lF k (a9 (aR f x)) bS, aP⟩ := by rw [aaw, FC]
theorem KX {t : TypeId} {p x : Operand} : aO E ops clk k (⟨none, .store t p x, ty, pos, af, none⟩ :: os) K ⟨f, rows, bS, aP⟩ =
  jT E t (eG .any ops k aP rows) (aR f p) (aR f x) fun id r => aH (A3 .any ops k id bS) (aO E ops clk (k + 1) os K ⟨f, dZ rows id (some r), lF k (a9 (aR f p) ++ ((bW (aR f x)).getD []).flatMap a9) bS, oY k id aP⟩) := by rw [PL, ← FD]; rfl
theorem TA {x : Operand} : go (aM E ops (⟨d, .move x, ty, pos, af, none⟩ :: os) K ⟨f, rows, clk⟩) = go (aM E ops os K ⟨put f d (aR f x), rows, clk⟩) := V4
theorem FG {x : Operand} : go (aM E ops (⟨d, .assign x, ty, pos, af, none⟩ :: os) K ⟨f, rows, clk⟩) = go (aM E ops os K ⟨put f d (aR f x), rows, clk⟩) := KI
theorem aeG {c a b : Operand} : go (aM E ops (⟨d, .pick c a b, ty, pos, af, none⟩ :: os) K ⟨f, rows, clk⟩) = iJ (aR f c) true (aM E ops os K ⟨put f d (aR f a), rows, clk⟩) (aM E ops os K ⟨put f d (aR f b), rows, clk⟩) := V5
theorem aaE {op : BinOp} {t t2 : TypeId} {x y : Operand} : go (aM E ops (⟨d, .binOp op t x y t2, ty, pos, af, none⟩ :: os) K ⟨f, rows, clk⟩) = aV (fun v => GR E op t (aR f x) (aR f y) v) fun v => aM E ops os K ⟨put f d v, rows, clk⟩ := aaq
theorem apf {op : UnOp} {t : TypeId} {x : Operand} : go (aM E ops (⟨d, .unOp op t x, ty, pos, af, none⟩ :: os) K ⟨f, rows, clk⟩) = aV (fun v => yun op (aR f x) v) fun v => aM E ops os K ⟨put f d v, rows, clk⟩ := aev
theorem HH {s t : TypeId} {x : Operand} : go (aM E ops (⟨d, .convert s t x, ty, pos, af, none⟩ :: os) K ⟨f, rows, clk⟩) = aV (fun v => sU (E.ty s) (E.ty t) (aR f x) v) fun v => aM E ops os K ⟨put f d v, rows, clk⟩ := V6
theorem PT {i : Nat} {x : Operand} : go (aM E ops (⟨d, .extract x i, ty, pos, af, none⟩ :: os) K ⟨f, rows, clk⟩) = u9 i (aR f x) fun v => aM E ops os K ⟨put f d v, rows, clk⟩ := by
 show aM E ops (⟨d, .extract x i, ty, pos, af, none⟩ :: os) K ⟨f, rows, clk⟩ = _
 rw [HB, FF]
theorem aeH {t : TypeId} {x : Operand} : go (aM E ops (⟨d, .load t x, ty, pos, af, none⟩ :: os) K ⟨f, rows, clk⟩) = kI E t rows (aR f x) fun v => aM E ops os K ⟨put f d v, rows, clk⟩ := PQ
theorem aaF {t : TypeId} {i : Nat} {x : Operand} : go (aM E ops (⟨d, .field t x i, ty, pos, af, none⟩ :: os) K ⟨f, rows, clk⟩) = jS (E.ty t) i (aR f x) fun v => aM E ops os K ⟨put f d v, rows, clk⟩ := KS
theorem HI {t : TypeId} {i : Nat} {x : Operand} : go (aM E ops (⟨d, .fieldAddr t x i, ty, pos, af, none⟩ :: os) K ⟨f, rows, clk⟩) = dR (E.ty t) rows i (aR f x) fun v => aM E ops os K ⟨put f d v, rows, clk⟩ := zF
theorem HJ {t : TypeId} {x y : Operand} : go (aM E ops (⟨d, .indexAddr t x y, ty, pos, af, none⟩ :: os) K ⟨f, rows, clk⟩) = cB (E.ty t) rows (aR f x) (aR f y) fun v => aM E ops os K ⟨put f d v, rows, clk⟩ := zG
theorem aaG {t : TypeId} {x : Operand} {lo hi mx : Option Operand} : go (aM E ops (⟨d, .slice t x lo hi mx, ty, pos, af, none⟩ :: os) K ⟨f, rows, clk⟩) = fQ (E.ty t) rows (aR f x) (lo.map (aR f)) (hi.map (aR f)) (mx.map (aR f)) fun v => aM E ops os K ⟨put f d v, rows, clk⟩ := KT
theorem aaH {t : TypeId} {parts : Array (Nat × Operand)} : go (aM E ops (⟨d, .build t parts, ty, pos, af, none⟩ :: os) K ⟨f, rows, clk⟩) = kZ (E.ty t) (parts.toList.map fun x => (x.1, aR f x.2)) fun v => aM E ops os K ⟨put f d v, rows, clk⟩ := by
 show aM E ops (⟨d, .build t parts, ty, pos, af, none⟩ :: os) K ⟨f, rows, clk⟩ = _
 rw [PA, yN]
theorem KY {t : TypeId} {x y : Operand} : go (aM E ops (⟨d, .index t x y, ty, pos, af, none⟩ :: os) K ⟨f, rows, clk⟩) = aV (fun v => tI (E.ty t) (aR f x) (aR f y) v) fun v => aM E ops os K ⟨put f d v, rows, clk⟩ := PC
theorem KZ {x : Operand} : go (aM E ops (⟨d, .nilCheck x, ty, pos, af, none⟩ :: os) K ⟨f, rows, clk⟩) = s6 rows (aR f x) fun v => aM E ops os K ⟨put f d v, rows, clk⟩ := by show aM E ops _ K _ = _; rw [EA, FB]
theorem ajH {t : TypeId} {x : Operand} : go (aM E ops (⟨d, .call { callee := .builtin .len, args := ⟨[x]⟩, argTypes := ⟨[t]⟩ }, ty, pos, af, none⟩ :: os) K ⟨f, rows, clk⟩) = l7 (E.ty t) rows (aR f x) fun v => aM E ops os K ⟨put f d v, rows, clk⟩ := WH
theorem ajI {ts : Array TypeId} {x y : Operand} : go (aM E ops (⟨d, .call { callee := .builtin .max, args := ⟨[x, y]⟩, argTypes := ts }, ty, pos, af, none⟩ :: os) K ⟨f, rows, clk⟩) = aV (fun v => OD (aR f x) (aR f y) v) fun v => aM E ops os K ⟨put f d v, rows, clk⟩ := aas
theorem ajJ {ts : Array TypeId} {x y : Operand} : go (aM E ops (⟨d, .call { callee := .builtin .min, args := ⟨[x, y]⟩, argTypes := ts }, ty, pos, af, none⟩ :: os) K ⟨f, rows, clk⟩) = aV (fun v => OE (aR f x) (aR f y) v) fun v => aM E ops os K ⟨put f d v, rows, clk⟩ := aat
theorem EF {t : TypeId} {len : Nat} {parts : Array (Nat × Operand)} : go (aM E ops (⟨d, .buildSlice t len parts, ty, pos, af, none⟩ :: os) K ⟨f, rows, clk⟩) = u7 (E.ty t) rows len (parts.toList.map fun x => (x.1, aR f x.2)) fun v => aM E ops os K ⟨put f d v, rows, clk⟩ := by
 show aM E ops (⟨d, .buildSlice t len parts, ty, pos, af, none⟩ :: os) K ⟨f, rows, clk⟩ = _
 rw [zD, FE]
theorem aaI {t : TypeId} {p x : Operand} : go (aM E ops (⟨none, .store t p x, ty, pos, af, none⟩ :: os) K ⟨f, rows, clk⟩) = jT E t rows (aR f p) (aR f x) fun id r => aM E ops os K ⟨f, dZ rows id (some r), clk⟩ := KU
theorem aaJ {t : TypeId} : go (aM E ops (⟨d, .alloc t, ty, pos, af, none⟩ :: os) K ⟨f, rows, clk⟩) = aH ((E.ty t).known = true) (aM E ops os K ⟨put f d (.ptr (d.getD 0) clk 0 0), dZ rows (d.getD 0) (some ⟨clk, t, (E.ty t).size, [(E.ty t).zero]⟩), clk + 1⟩) := PF
theorem ajK {t : TypeId} {x : Operand} : go (aM E ops (⟨d, .box t x, ty, pos, af, none⟩ :: os) K ⟨f, rows, clk⟩) = aH ((E.ty t).known = true) (fN (bW (aR f x)) fun l => aH (gW rows l ∧ l.length = (E.ty t).size) (aM E ops os K ⟨put f d (.ptr (d.getD 0) clk 0 0), dZ rows (d.getD 0) (some ⟨clk, t, (E.ty t).size, [l]⟩), clk + 1⟩)) := by
 show aM E ops (⟨d, .box t x, ty, pos, af, none⟩ :: os) K ⟨f, rows, clk⟩ = _
 rw [aau]
 simp only [aH, fN, gW, and_assoc]
theorem HK {t : TypeId} {l c : Operand} : go (aM E ops (⟨d, .makeSlice t l c, ty, pos, af, none⟩ :: os) K ⟨f, rows, clk⟩) = qK (E.ty t) (aR f l) (aR f c) fun e n z x => aM E ops os K ⟨put f d (.own (d.getD 0) clk 0 x.toNat), dZ rows (d.getD 0) (some ⟨clk, e, n, List.replicate x.toNat z⟩), clk + 1⟩ := BD
theorem WJ {t t2 : TypeId} {x y : Operand} : go (aM E ops (⟨d, .call { callee := .builtin .append, args := ⟨[x, y]⟩, argTypes := ⟨[t, t2]⟩ }, ty, pos, af, none⟩ :: os) K ⟨f, rows, clk⟩) = aH (t2 = t ∨ ZN (E.ty t2) = true) (qM (E.ty t) rows (aR f x) (aR f y) clk (d.getD 0) fun v rows clk => aM E ops os K ⟨put f d v, rows, clk⟩) := HG
theorem aeI {fo : Operand} {args : Array Operand} {ts : Array TypeId} : go (aM E ops (⟨d, .call { callee := .value fo, args := args, argTypes := ts }, ty, pos, af, none⟩ :: os) K ⟨f, rows, clk⟩) = qL E (aR f fo) (args.toList.map (aR f)) rows clk fun v rows clk => aM E ops os K ⟨put f d v, rows, clk⟩ := V9
theorem K1 {g : FuncId} {b6 : Array Operand} : go (aM E ops (⟨d, .makeFunc (.func g) ⟨[]⟩ b6, ty, pos, af, none⟩ :: os) K ⟨f, rows, clk⟩) = aH (((b6.toList.map (aR f)).map (pz rows)).all fW = true ∧ eF rows ((b6.toList.map (aR f)).flatMap dX))
      (aM E ops os K ⟨put f d (.fn g ((b6.toList.map (aR f)).map (pz rows))), E3 rows ((b6.toList.map (aR f)).flatMap dX), clk⟩) := EB
theorem aaK {op : Op} {j : Nat} {want : Bool} : go (aM E ops (⟨d, op, ty, pos, af, some (j, want)⟩ :: os) K ⟨f, rows, clk⟩) = o0 (EE ops j) f want (aM E ops (⟨d, op, ty, pos, af, none⟩ :: os) K ⟨f, rows, clk⟩) (aM E ops os K ⟨put f d (.fH []), rows, clk⟩) := by
 rw [HF, ← KQ]; rfl
theorem aeJ {x : Operand} : go (aO E ops clk k (⟨d, .move x, ty, pos, af, none⟩ :: os) K ⟨f, rows, bS, aP⟩) = go (aO E ops clk (k + 1) os K ⟨put f d (aR f x), rows, bS, aP⟩) := WA
theorem WK {x : Operand} : go (aO E ops clk k (⟨d, .assign x, ty, pos, af, none⟩ :: os) K ⟨f, rows, bS, aP⟩) = go (aO E ops clk (k + 1) os K ⟨put f d (aR f x), rows, bS, aP⟩) := KL
theorem aeK {c a b : Operand} : go (aO E ops clk k (⟨d, .pick c a b, ty, pos, af, none⟩ :: os) K ⟨f, rows, bS, aP⟩) = iJ (aR f c) true (aO E ops clk (k + 1) os K ⟨put f d (aR f a), rows, bS, aP⟩) (aO E ops clk (k + 1) os K ⟨put f d (aR f b), rows, bS, aP⟩) := WB
theorem ajL {op : BinOp} {t t2 : TypeId} {x y : Operand} : go (aO E ops clk k (⟨d, .binOp op t x y t2, ty, pos, af, none⟩ :: os) K ⟨f, rows, bS, aP⟩) = aV (fun v => GR E op t (aR f x) (aR f y) v) fun v => aO E ops clk (k + 1) os K ⟨put f d v, rows, bS, aP⟩ := aav
theorem apg {op : UnOp} {t : TypeId} {x : Operand} : go (aO E ops clk k (⟨d, .unOp op t x, ty, pos, af, none⟩ :: os) K ⟨f, rows, bS, aP⟩) = aV (fun v => yun op (aR f x) v) fun v => aO E ops clk (k + 1) os K ⟨put f d v, rows, bS, aP⟩ := aex
theorem aeL {s t : TypeId} {x : Operand} : go (aO E ops clk k (⟨d, .convert s t x, ty, pos, af, none⟩ :: os) K ⟨f, rows, bS, aP⟩) = aV (fun v => sU (E.ty s) (E.ty t) (aR f x) v) fun v => aO E ops clk (k + 1) os K ⟨put f d v, rows, bS, aP⟩ := WC
theorem PU {i : Nat} {x : Operand} : go (aO E ops clk k (⟨d, .extract x i, ty, pos, af, none⟩ :: os) K ⟨f, rows, bS, aP⟩) = u9 i (aR f x) fun v => aO E ops clk (k + 1) os K ⟨put f d v, rows, bS, aP⟩ := by
 show aO E ops clk k (⟨d, .extract x i, ty, pos, af, none⟩ :: os) K ⟨f, rows, bS, aP⟩ = _
 rw [HC, FF]
theorem aeM {t : TypeId} {x : Operand} : go (aO E ops clk k (⟨d, .load t x, ty, pos, af, none⟩ :: os) K ⟨f, rows, bS, aP⟩) = kI E t (eG .any ops k aP rows) (aR f x) fun v => aO E ops clk (k + 1) os K ⟨put f d v, rows, lF k (a9 (aR f x)) bS, aP⟩ := PR
theorem aaL {t : TypeId} {i : Nat} {x : Operand} : go (aO E ops clk k (⟨d, .field t x i, ty, pos, af, none⟩ :: os) K ⟨f, rows, bS, aP⟩) = jS (E.ty t) i (aR f x) fun v => aO E ops clk (k + 1) os K ⟨put f d v, rows, bS, aP⟩ := KV
theorem HL {t : TypeId} {i : Nat} {x : Operand} : go (aO E ops clk k (⟨d, .fieldAddr t x i, ty, pos, af, none⟩ :: os) K ⟨f, rows, bS, aP⟩) = dR (E.ty t) (eG .any ops k aP rows) i (aR f x) fun v => aO E ops clk (k + 1) os K ⟨put f d v, rows, lF k (a9 (aR f x)) bS, aP⟩ := zH
theorem HM {t : TypeId} {x y : Operand} : go (aO E ops clk k (⟨d, .indexAddr t x y, ty, pos, af, none⟩ :: os) K ⟨f, rows, bS, aP⟩) = cB (E.ty t) (eG .any ops k aP rows) (aR f x) (aR f y) fun v => aO E ops clk (k + 1) os K ⟨put f d v, rows, lF k (a9 (aR f x)) bS, aP⟩ := zI
theorem aaM {t : TypeId} {x : Operand} {lo hi mx : Option Operand} : go (aO E ops clk k (⟨d, .slice t x lo hi mx, ty, pos, af, none⟩ :: os) K ⟨f, rows, bS, aP⟩) = fQ (E.ty t) (eG .any ops k aP rows) (aR f x) (lo.map (aR f)) (hi.map (aR f)) (mx.map (aR f)) fun v => aO E ops clk (k + 1) os K ⟨put f d v, rows, lF k (a9 (aR f x)) bS, aP⟩ := KW
theorem aaN {t : TypeId} {parts : Array (Nat × Operand)} : go (aO E ops clk k (⟨d, .build t parts, ty, pos, af, none⟩ :: os) K ⟨f, rows, bS, aP⟩) = kZ (E.ty t) (parts.toList.map fun x => (x.1, aR f x.2)) fun v => aO E ops clk (k + 1) os K ⟨put f d v, rows, bS, aP⟩ := by
 show aO E ops clk k (⟨d, .build t parts, ty, pos, af, none⟩ :: os) K ⟨f, rows, bS, aP⟩ = _
 rw [PK, yN]
theorem K2 {x : Operand} : go (aO E ops clk k (⟨d, .nilCheck x, ty, pos, af, none⟩ :: os) K ⟨f, rows, bS, aP⟩) = s6 (eG .any ops k aP rows) (aR f x) fun v => aO E ops clk (k + 1) os K ⟨put f d v, rows, lF k (a9 (aR f x)) bS, aP⟩ := by show aO E ops clk k _ K _ = _; rw [EC, FB]
theorem ajM {t : TypeId} {x : Operand} : go (aO E ops clk k (⟨d, .call { callee := .builtin .len, args := ⟨[x]⟩, argTypes := ⟨[t]⟩ }, ty, pos, af, none⟩ :: os) K ⟨f, rows, bS, aP⟩) = l7 (E.ty t) (eG .any ops k aP rows) (aR f x) fun v => aO E ops clk (k + 1) os K ⟨put f d v, rows, lF k (a9 (aR f x)) bS, aP⟩ := WI
theorem ajN {ts : Array TypeId} {x y : Operand} : go (aO E ops clk k (⟨d, .call { callee := .builtin .max, args := ⟨[x, y]⟩, argTypes := ts }, ty, pos, af, none⟩ :: os) K ⟨f, rows, bS, aP⟩) = aV (fun v => OD (aR f x) (aR f y) v) fun v => aO E ops clk (k + 1) os K ⟨put f d v, rows, bS, aP⟩ := aax
theorem ajO {ts : Array TypeId} {x y : Operand} : go (aO E ops clk k (⟨d, .call { callee := .builtin .min, args := ⟨[x, y]⟩, argTypes := ts }, ty, pos, af, none⟩ :: os) K ⟨f, rows, bS, aP⟩) = aV (fun v => OE (aR f x) (aR f y) v) fun v => aO E ops clk (k + 1) os K ⟨put f d v, rows, bS, aP⟩ := aay
theorem EG {t : TypeId} {len : Nat} {parts : Array (Nat × Operand)} : go (aO E ops clk k (⟨d, .buildSlice t len parts, ty, pos, af, none⟩ :: os) K ⟨f, rows, bS, aP⟩) = u7 (E.ty t) (eG .any ops k aP rows) len (parts.toList.map fun x => (x.1, aR f x.2)) fun v => aO E ops clk (k + 1) os K ⟨put f d v, rows, bS, aP⟩ := by
 show aO E ops clk k (⟨d, .buildSlice t len parts, ty, pos, af, none⟩ :: os) K ⟨f, rows, bS, aP⟩ = _
 rw [zE, FE]
theorem aaO {t : TypeId} {p x : Operand} : go (aO E ops clk k (⟨none, .store t p x, ty, pos, af, none⟩ :: os) K ⟨f, rows, bS, aP⟩) = jT E t (eG .any ops k aP rows) (aR f p) (aR f x) fun id r => aH (A3 .any ops k id bS) (aO E ops clk (k + 1) os K ⟨f, dZ rows id (some r), lF k (a9 (aR f p) ++ ((bW (aR f x)).getD []).flatMap a9) bS, oY k id aP⟩) := KX
theorem aaP {t : TypeId} : go (aO E ops clk k (⟨d, .alloc t, ty, pos, af, none⟩ :: os) K ⟨f, rows, bS, aP⟩) = aH ((E.ty t).known = true ∧ A3 .any ops k (d.getD 0) bS) (aO E ops (clk + 1) (k + 1) os K ⟨put f d (.ptr (d.getD 0) clk 0 0), dZ rows (d.getD 0) (some ⟨clk, t, (E.ty t).size, [(E.ty t).zero]⟩), bS, oY k (d.getD 0) aP⟩) := PM
theorem ajP {t : TypeId} {x : Operand} : go (aO E ops clk k (⟨d, .box t x, ty, pos, af, none⟩ :: os) K ⟨f, rows, bS, aP⟩) = aH ((E.ty t).known = true) (fN (bW (aR f x)) fun l => aH (gW (fun _ => none) l ∧ l.length = (E.ty t).size ∧ A3 .any ops k (d.getD 0) bS) (aO E ops (clk + 1) (k + 1) os K ⟨put f d (.ptr (d.getD 0) clk 0 0), dZ rows (d.getD 0) (some ⟨clk, t, (E.ty t).size, [l]⟩), bS, oY k (d.getD 0) aP⟩)) := by
 show aO E ops clk k (⟨d, .box t x, ty, pos, af, none⟩ :: os) K ⟨f, rows, bS, aP⟩ = _
 rw [aaA]
 simp only [aH, fN, gW]
theorem HN {t : TypeId} {l c : Operand} : go (aO E ops clk k (⟨d, .makeSlice t l c, ty, pos, af, none⟩ :: os) K ⟨f, rows, bS, aP⟩) = qK (E.ty t) (aR f l) (aR f c) fun e n z x => aH (A3 .any ops k (d.getD 0) bS) (aO E ops (clk + 1) (k + 1) os K ⟨put f d (.own (d.getD 0) clk 0 x.toNat), dZ rows (d.getD 0) (some ⟨clk, e, n, List.replicate x.toNat z⟩), bS, oY k (d.getD 0) aP⟩) := BG
def s8 (t : TI) (rows : Rows) (x y : PV) (clk d : Nat) (K : PV → Nat → Row → Prop) : Prop :=
 match t with
 | .slice e n b _ => j9 rows y fun l => aH (bF n l) (match x with
  | .nil => aH (l.length ≤ room ∧ l.length * b ≤ room) (K (.own d clk 0 l.length) d ⟨clk, e, n, l⟩)
  | .own id ver off len => bO (rows id) ver fun r => aH (off = 0 ∧ len = r.els.length ∧ r.e = e ∧ r.size = n) (aH (len + l.length ≤ room ∧ (len + l.length) * b ≤ room) (K (.own id clk 0 (len + l.length)) id ⟨clk, e, n, r.els ++ l⟩))
  | _ => False)
 | _ => False
@[congr] theorem ahx {t t' : TI} {rows rows' : Rows} {x x' y y' : PV} {clk d : Nat} {K : PV → Nat → Row → Prop} (h1 : t = t') (h2 : rows = rows') (h3 : x = x') (h4 : y = y') :
  s8 t rows x y clk d K = s8 t' rows' x' y' clk d K := by rw [h1, h2, h3, h4]
@[simp] theorem anh {e : TypeId} {n b : Nat} {z : List PV} {rows : Rows} {y : PV} {clk d : Nat} {K : PV → Nat → Row → Prop} : s8 (.slice e n b z) rows .nil y clk d K = j9 rows y fun l => aH (bF n l) (aH (l.length ≤ room ∧ l.length * b ≤ room) (K (.own d clk 0 l.length) d ⟨clk, e, n, l⟩)) := rfl
@[simp] theorem ani {e : TypeId} {n b : Nat} {z : List PV} {rows : Rows} {y : PV} {clk d id ver off len : Nat} {K : PV → Nat → Row → Prop} : s8 (.slice e n b z) rows (.own id ver off len) y clk d K = j9 rows y fun l => aH (bF n l) (bO (rows id) ver fun r => aH (off = 0 ∧ len = r.els.length ∧ r.e = e ∧ r.size = n) (aH (len + l.length ≤ room ∧ (len + l.length) * b ≤ room) (K (.own id clk 0 (len + l.length)) id ⟨clk, e, n, r.els ++ l⟩))) := rfl
@[simp] theorem aph (t : TI) (r : Rows) (x y : PV) (c d : Nat) (K : PV → Nat → Row → Prop) : go (s8 t r x y c d K) = s8 t r x y c d K := rfl
theorem aaQ {t : TI} {rows : Rows} {x y : PV} {clk d : Nat} {K : PV → Nat → Row → Prop} : (∃ v id r, qI t rows x y clk d v (some (id, r)) ∧ K v id r) = s8 t rows x y clk d K := by
 cases t with
 | slice e n b z =>
  simp only [s8, qI]
  rw [← S8]
  apply propext
  cases x with
  | nil =>
   simp only [aH, bF]
   constructor
   ·rintro ⟨v, id, r, ⟨l, h1, h2, h3, h4, rfl, h5⟩, h6⟩
    cases h5
    exact ⟨l, h1, h2, ⟨h3, h4⟩, h6⟩
   ·rintro ⟨l, h1, h2, ⟨h3, h4⟩, h6⟩
    exact ⟨_, _, _, ⟨l, h1, h2, h3, h4, rfl, rfl⟩, h6⟩
  | own id ver off len =>
   simp only [aH, bF, bO]
   constructor
   ·rintro ⟨v, jL, r', ⟨l, h1, h2, r, h3, h4, h5, h6, h7, h8, h9, h10, rfl, h11⟩, h12⟩
    cases h11
    exact ⟨l, h1, h2, r, h3, h4, ⟨h5, h6, h7, h8⟩, ⟨h9, h10⟩, h12⟩
   ·rintro ⟨l, h1, h2, r, h3, h4, ⟨h5, h6, h7, h8⟩, ⟨h9, h10⟩, h12⟩
    exact ⟨_, _, _, ⟨l, h1, h2, r, h3, h4, h5, h6, h7, h8, h9, h10, rfl, rfl⟩, h12⟩
  | _ => simp [aH]
 | _ => simp [s8, qI]
theorem WL {t t2 : TypeId} {x y : Operand} : go (aO E ops clk k (⟨d, .call { callee := .builtin .append, args := ⟨[x, y]⟩, argTypes := ⟨[t, t2]⟩ }, ty, pos, af, none⟩ :: os) K ⟨f, rows, bS, aP⟩) =
  aH (t2 = t ∨ ZN (E.ty t2) = true) (s8 (E.ty t) (eG .any ops k aP rows) (aR f x) (aR f y) clk (d.getD 0) fun v id r => aH (A3 .any ops k id bS) (aO E ops (clk + 1) (k + 1) os K ⟨put f d v, dZ rows id (some r), lF k (a9 (aR f x) ++ a9 (aR f y)) bS, oY k id aP⟩)) := by
 show aO E ops clk k (⟨d, .call { callee := .builtin .append, args := ⟨[x, y]⟩, argTypes := ⟨[t, t2]⟩ }, ty, pos, af, none⟩ :: os) K ⟨f, rows, bS, aP⟩ = _
 rw [KM]
 congr 1
 exact aaQ
theorem aaR {s : Tmp} {args : Array Operand} {ts : Array TypeId} : go (aO E ops clk k (⟨d, .call { callee := .value (.tmp s), args := args, argTypes := ts }, ty, pos, af, none⟩ :: os) K ⟨f, rows, bS, aP⟩) = oZ E (f s) (args.toList.map (aR f)) (eG .any ops k aP rows) fun v => aO E ops clk (k + 1) os K ⟨put f d v, rows, bS, aP⟩ := E9 rfl
def rU (P : Program) (g : FuncId) (args : List PV) (c : Prop) (K : TypeId → Nat → List (List PV) → Prop) : Prop := ∃ e n els, (args.all fW = true ∧ iD P g args e n els ∧ c) ∧ K e n els
@[congr] theorem adV {P : Program} {g : FuncId} {args KK : List PV} {c c' : Prop} {K : TypeId → Nat → List (List PV) → Prop} (h : args = KK) (hc : c = c') : rU P g args c K = rU P g KK c' K := by rw [h, hc]
@[simp] theorem ajQ {P : Program} {g : FuncId} {args : List PV} {c : Prop} {K : TypeId → Nat → List (List PV) → Prop} : go (rU P g args c K) = rU P g args c K := rfl
theorem FH {P : Program} {g : FuncId} {args : List PV} {c : Prop} {K : TypeId → Nat → List (List PV) → Prop} {e : TypeId} {n : Nat} {els : List (List PV)} (h : iD P g args e n els) (hp : args.all fW = true) (hc : c) (hK : go (K e n els)) : rU P g args c K := ⟨e, n, els, ⟨hp, h, hc⟩, hK⟩
theorem aaS {g : FuncId} {args : Array Operand} {ts : Array TypeId} : go (aO E ops clk k (⟨d, .call { callee := .value (.func g), args := args, argTypes := ts }, ty, pos, af, none⟩ :: os) K ⟨f, rows, bS, aP⟩) =
  if E.writes g = true then rU E.P g (args.toList.map (aR f)) (A3 .any ops k (d.getD 0) bS) (fun e n els => aO E ops (clk + 1) (k + 1) os K ⟨put f d (.own (d.getD 0) clk 0 els.length), dZ rows (d.getD 0) (some ⟨clk, e, n, els⟩), bS, oY k (d.getD 0) aP⟩)
  else oZ E (.fn g []) (args.toList.map (aR f)) (eG .any ops k aP rows) fun v => aO E ops clk (k + 1) os K ⟨put f d v, rows, bS, aP⟩ := by
 split
 ·rename_i hw; exact PN hw
 ·rename_i hw; exact E9 (by simpa [dK] using hw)
theorem K3 {g : FuncId} {b6 : Array Operand} : go (aO E ops clk k (⟨d, .makeFunc (.func g) ⟨[]⟩ b6, ty, pos, af, none⟩ :: os) K ⟨f, rows, bS, aP⟩) = aH ((b6.toList.map fun x => aR f x).all fW = true) (aO E ops clk (k + 1) os K ⟨put f d (.fn g (b6.toList.map fun x => aR f x)), rows, bS, aP⟩) := ED
theorem aaT {op : Op} {j : Nat} {want : Bool} : go (aO E ops clk k (⟨d, op, ty, pos, af, some (j, want)⟩ :: os) K ⟨f, rows, bS, aP⟩) = o0 (EE ops j) f want (aO E ops clk k (⟨d, op, ty, pos, af, none⟩ :: os) K ⟨f, rows, bS, aP⟩) (aO E ops clk (k + 1) os K ⟨put f d (.fH []), rows, bS, aP⟩) := by
 rw [HF, ← KR]; rfl
theorem aaU {σ : PS} : go (aM E ops [] K σ) = K σ := rfl
theorem ajR {st : ST} : go (aO E ops clk k [] K st) = go (K ⟨st.f, st.rows, clk⟩) := rfl
@[simp] theorem TB {s : Nat} : aR f (.tmp s) = f s := rfl
@[simp] theorem apj {g : FuncId} : aR f (.func g) = .fn g [] := rfl
@[simp] theorem WM {v : Value} : aR f (.const v) = nX v := rfl
end
@[simp] theorem ajS {k : IntKind} {n : Int} : nX (.int k n) = .int k n := rfl
@[simp] theorem ahy {b : Bool} : nX (.bool b) = .bool b := rfl
@[simp] theorem PW {s : ByteArray} : nX (.string s) = .str s := rfl
@[simp] theorem ahz : nX (.pointer none) = .j5 := rfl
@[simp] theorem ahA : iX (.pointer none) = .j5 := rfl
@[simp] theorem ajT : nX (.slice none 0 0) = .nil := rfl
@[simp] theorem ajU {cs : List Value} : nX (.agg ⟨cs⟩) = .ag (cs.map iX) := rfl
@[simp] theorem ajV {k : IntKind} {n : Int} : iX (.int k n) = .int k n := rfl
@[simp] theorem ahB {b : Bool} : iX (.bool b) = .bool b := rfl
@[simp] theorem ajW {s : ByteArray} : iX (.string s) = .str s := rfl
@[simp] theorem ajX : iX (.slice none 0 0) = .nil := rfl
@[simp] theorem apk (R K : PV → Prop) : go (aV R K) = aV R K := rfl
@[simp] theorem apl (p : PV) (w : Bool) (A B : Prop) : go (stepG p w A B) = stepG p w A B := rfl
@[simp] theorem apm (p : PV) (w : Bool) (A B : Prop) : go (iJ p w A B) = iJ p w A B := rfl
@[simp] theorem apn (A B : Prop) : go (aH A B) = aH A B := rfl
@[simp] theorem apo (P : Program) (g : FuncId) (l : List PV) (K : PV → Prop) : go (u5 P g l K) = u5 P g l K := rfl
@[simp] theorem ajY (o : Option Row) (v : Nat) (K : Row → Prop) : go (bO o v K) = bO o v K := rfl
@[simp] theorem au8 (l : List (List PV)) (i : Nat) (K : List PV → Prop) : go (FA l i K) = FA l i K := rfl
@[simp] theorem au9 (t : TI) (l : List PV) (j : Nat) (K : PV → Prop) : go (yJ t l j K) = yJ t l j K := rfl
@[simp] theorem ank (E : Env) (t : TypeId) (r : Rows) (p : PV) (K : PV → Prop) : go (kI E t r p K) = kI E t r p K := rfl
@[simp] theorem ajZ (t : TI) (i : Nat) (x : PV) (K : PV → Prop) : go (jS t i x K) = jS t i x K := rfl
@[simp] theorem as3 (p : Nat × Nat × Bool) (l : List PV) (K : PV → Prop) : go (HD p l K) = HD p l K := rfl
@[simp] theorem apq (r : Rows) (x : PV) (K : PV → Prop) : go (s6 r x K) = s6 r x K := rfl
@[simp] theorem aaV (t : TI) (r : Rows) (i : Nat) (x : PV) (K : PV → Prop) : go (dR t r i x K) = dR t r i x K := rfl
@[simp] theorem aaW (t : TI) (r : Rows) (x y : PV) (K : PV → Prop) : go (cB t r x y K) = cB t r x y K := rfl
@[simp] theorem ava (d : Nat) (o : Option PV) (K : Nat → Prop) : go (yL d o K) = yL d o K := rfl
@[simp] theorem aj0 (t : TI) (r : Rows) (x : PV) (a b c : Option PV) (K : PV → Prop) : go (fQ t r x a b c K) = fQ t r x a b c K := rfl
@[simp] theorem apr (t : TI) (r : Rows) (x : PV) (K : PV → Prop) : go (l7 t r x K) = l7 t r x K := rfl
@[simp] theorem aj1 (E : Env) (t : TypeId) (r : Rows) (p x : PV) (K : Nat → Row → Prop) : go (jT E t r p x K) = jT E t r p x K := rfl
@[simp] theorem aps (r : Rows) (y : PV) (K : List (List PV) → Prop) : go (j9 r y K) = j9 r y K := rfl
@[simp] theorem apt (t : TI) (r : Rows) (x y : PV) (c d : Nat) (K : PV → Rows → Nat → Prop) : go (qM t r x y c d K) = qM t r x y c d K := rfl
@[simp] theorem apu (t : TI) (x y : PV) (K : TypeId → Nat → List PV → Int → Prop) : go (qK t x y K) = qK t x y K := rfl
@[simp] theorem anl (E : Env) (p : PV) (l : List PV) (r : Rows) (clk : Nat) (K : PV → Rows → Nat → Prop) : go (qL E p l r clk K) = qL E p l r clk K := rfl
@[simp] theorem apv (P : Program) (g : FuncId) (l : List PV) (r : Rows) (clk : Nat) (K : PV → Rows → Nat → Prop) : go (yC P g l r clk K) = yC P g l r clk K := rfl
@[simp] theorem anm (E : Env) (p : PV) (l : List PV) (r : Rows) (K : PV → Prop) : go (oZ E p l r K) = oZ E p l r K := rfl
@[simp] theorem apw {fs : List (Nat × Nat × Bool)} {ps : List (Nat × PV)} {z : List PV} {K : List PV → Prop} : go (mM fs ps z K) = mM fs ps z K := rfl
@[simp] theorem aj2 {t : TI} {ps : List (Nat × PV)} {K : PV → Prop} : go (kZ t ps K) = kZ t ps K := rfl
@[simp] theorem ann {n k : Nat} {ps : List (Nat × PV)} {K : List (List PV) → Prop} : go (iZ n k ps K) = iZ n k ps K := rfl
@[simp] theorem apx {t : TI} {rows : Rows} {len : Nat} {ps : List (Nat × PV)} {K : PV → Prop} : go (u7 t rows len ps K) = u7 t rows len ps K := rfl
@[simp] theorem apy {i : Nat} {x : PV} {K : PV → Prop} : go (u9 i x K) = u9 i x K := rfl
@[simp] theorem as4 {α : Type} (o : Option α) (K : α → Prop) : go (fN o K) = fN o K := rfl
@[simp] theorem ax3 {α : Type} (p : α → Prop) : go (∃ x, p x) = ∃ x, go (p x) := rfl
@[simp] theorem apz : go False = False := rfl
@[simp] theorem ax4 {p : Prop} : go (go p) = go p := rfl
@[simp] theorem ahC {t : PV} {K : PV → Prop} : aV (fun v => v = t) K = go (K t) := jR
@[simp] theorem avb {t : PV} {K : PV → Prop} : aV (fun v => t = v) K = go (K t) := V3
@[simp] theorem aeN {B : Prop} : aH True B = go B := O5
@[simp] theorem ax5 {A B : Prop} : stepG (.bool true) true A B = go A := aaj
@[simp] theorem ax6 {A B : Prop} : stepG (.bool true) false A B = go B := aak
@[simp] theorem ax7 {A B : Prop} : stepG (.bool false) true A B = go B := aal
@[simp] theorem ax8 {A B : Prop} : stepG (.bool false) false A B = go A := aam
@[simp] theorem ax9 {w : Bool} {A B : Prop} : stepG (.fH []) w A B = go B := aan
@[simp] theorem aya {A B : Prop} : iJ (.bool true) true A B = go A := aag
@[simp] theorem ayb {A B : Prop} : iJ (.bool true) false A B = go B := aah
@[simp] theorem ayc {A B : Prop} : iJ (.bool false) true A B = go B := aai
@[simp] theorem ayd {A B : Prop} : iJ (.bool false) false A B = go A := aao
theorem gA {c B : Prop} (h : c) : aH c B = go B := by simp [aH, go, h]
attribute [simp] i9 aaf BA aap ajr O6 HA TA FG aeG aaE apf HH PT aeH aaF HI HJ aaG aaH KY KZ K2 ajH ajI ajJ EF aaI aaJ ajK HK WJ aeI K1 aaK aeJ WK aeK ajL apg aeL PU aeM aaL HL HM aaM aaN ajM ajN ajO EG aaO aaP ajP HN WL aaR aaS K3 aaT aaU ajR
attribute [simp] ZN GR yun sU tI OD OE qK qL oZ sS TI.known TI.size TI.zero TI.agg Z8 Z9 KG room
theorem EH {E : Env} {ops : List Oper} {K : PS → Prop} {f : Nat → PV} {rows : Rows} {clk : Nat} : gQ E 0 ops K ⟨f, rows, clk⟩ = aO E ops clk 0 ops K ⟨f, rows, fun _ _ => False, fun _ _ => False⟩ := by simp [gQ]
@[simp] theorem ano {b : Bool} : fW (.bool b) = true := rfl
@[simp] theorem aj3 {b : Bool} : cM (.bool b) = true := rfl
@[simp] theorem anp {b : Bool} : a9 (.bool b) = [] := rfl
@[simp] theorem anq {rows : Rows} {b : Bool} : iQ rows (.bool b) = True := rfl
@[simp] theorem ahD {b : Bool} : bW (.bool b) = some [.bool b] := rfl
@[simp] theorem ahE {b : Bool} : fA (.bool b) = some [.bool b] := rfl
@[simp] theorem apA {k : IntKind} {n : Int} : fW (.int k n) = true := rfl
@[simp] theorem anr {k : IntKind} {n : Int} : cM (.int k n) = true := rfl
@[simp] theorem apB {k : IntKind} {n : Int} : a9 (.int k n) = [] := rfl
@[simp] theorem apC {rows : Rows} {k : IntKind} {n : Int} : iQ rows (.int k n) = True := rfl
@[simp] theorem aj4 {k : IntKind} {n : Int} : bW (.int k n) = some [.int k n] := rfl
@[simp] theorem aj5 {k : IntKind} {n : Int} : fA (.int k n) = some [.int k n] := rfl
@[simp] theorem apD {s : ByteArray} : fW (.str s) = true := rfl
@[simp] theorem ans {s : ByteArray} : cM (.str s) = true := rfl
@[simp] theorem apE {s : ByteArray} : a9 (.str s) = [] := rfl
@[simp] theorem apF {rows : Rows} {s : ByteArray} : iQ rows (.str s) = True := rfl
@[simp] theorem aj6 {s : ByteArray} : bW (.str s) = some [.str s] := rfl
@[simp] theorem aj7 {s : ByteArray} : fA (.str s) = some [.str s] := rfl
@[simp] theorem ant  : fW .j5 = true := rfl
@[simp] theorem aj8  : cM .j5 = true := rfl
@[simp] theorem anu  : a9 .j5 = [] := rfl
@[simp] theorem anv  : dX .j5 = [] := rfl
@[simp] theorem as5 {rows : Rows} : fz rows .j5 = .j5 := rfl
@[simp] theorem as6 {rows : Rows} : pz rows .j5 = .j5 := rfl
@[simp] theorem anw {rows : Rows}  : iQ rows .j5 = True := rfl
@[simp] theorem ahF  : bW .j5 = some [.j5] := rfl
@[simp] theorem ahG  : fA .j5 = some [.j5] := rfl
@[simp] theorem apG  : fW .nil = true := rfl
@[simp] theorem anx  : cM .nil = true := rfl
@[simp] theorem apH  : a9 .nil = [] := rfl
@[simp] theorem apI {rows : Rows}  : iQ rows .nil = True := rfl
@[simp] theorem aj9  : bW .nil = some [.nil] := rfl
@[simp] theorem aka  : fA .nil = some [.nil] := rfl
@[simp] theorem as7 {l : List (List PV)} : fW (.sl l) = true := rfl
@[simp] theorem apJ {l : List (List PV)} : cM (.sl l) = true := rfl
@[simp] theorem as8 {l : List (List PV)} : a9 (.sl l) = [] := rfl
@[simp] theorem as9 {rows : Rows} {l : List (List PV)} : iQ rows (.sl l) = True := rfl
@[simp] theorem anz {l : List (List PV)} : bW (.sl l) = some [.sl l] := rfl
@[simp] theorem anA {l : List (List PV)} : fA (.sl l) = some [.sl l] := rfl
@[simp] theorem apK {l : List (List PV)} : fW (.jN l) = true := rfl
@[simp] theorem anB {l : List (List PV)} : cM (.jN l) = true := rfl
@[simp] theorem apL {l : List (List PV)} : a9 (.jN l) = [] := rfl
@[simp] theorem apM {rows : Rows} {l : List (List PV)} : iQ rows (.jN l) = True := rfl
@[simp] theorem akb {l : List (List PV)} : bW (.jN l) = some [.jN l] := rfl
@[simp] theorem akc {l : List (List PV)} : fA (.jN l) = some [.jN l] := rfl
@[simp] theorem aeO {l : List PV} : fW (.rd l) = true := rfl
@[simp] theorem aaX {l : List PV} : cM (.rd l) = true := rfl
@[simp] theorem aeP {l : List PV} : a9 (.rd l) = [] := rfl
@[simp] theorem ata {rows : Rows} {l : List PV} : iQ rows (.rd l) = True := rfl
@[simp] theorem anC {l : List PV} : bW (.rd l) = some [.rd l] := rfl
@[simp] theorem anD {l : List PV} : fA (.rd l) = some [.rd l] := rfl
@[simp] theorem atb {f : FuncId} {l : List PV} : fW (.fn f l) = true := rfl
@[simp] theorem apN {f : FuncId} {l : List PV} : cM (.fn f l) = true := rfl
@[simp] theorem atc {f : FuncId} {l : List PV} : a9 (.fn f l) = [] := rfl
@[simp] theorem atd {rows : Rows} {f : FuncId} {l : List PV} : iQ rows (.fn f l) = True := rfl
@[simp] theorem anE {f : FuncId} {l : List PV} : bW (.fn f l) = some [.fn f l] := rfl
@[simp] theorem anF {f : FuncId} {l : List PV} : fA (.fn f l) = some [.fn f l] := rfl
@[simp] theorem ate {l : List PV} : fW (.ag l) = l.all cM := rfl
@[simp] theorem apO {l : List PV} : fW (.fH l) = true := rfl
@[simp] theorem anG {l : List PV} : bW (.ag l) = some l := rfl
@[simp] theorem anH {l : List PV} : fA (.ag l) = some l := rfl
@[simp] theorem apP {id v o l : Nat} : a9 (.own id v o l) = [id] := rfl
@[simp] theorem apQ {id v o l : Nat} : a9 (.ptr id v o l) = [id] := rfl
@[simp] theorem akd {id v o l : Nat} : bW (.own id v o l) = some [.own id v o l] := rfl
@[simp] theorem ake {id v o l : Nat} : bW (.ptr id v o l) = some [.ptr id v o l] := rfl
def rowAt (o : Option Row) (ver : Nat) : Prop := ∃ r, o = some r ∧ r.ver = ver
@[simp] theorem akf {r : Row} {ver : Nat} : rowAt (some r) ver = (r.ver = ver) := by simp [rowAt]
@[simp] theorem apR {rows : Rows} {id v o l : Nat} : iQ rows (.own id v o l) = rowAt (rows id) v := rfl
@[simp] theorem apS {rows : Rows} {id v o l : Nat} : iQ rows (.ptr id v o l) = rowAt (rows id) v := rfl
@[simp] theorem anI {e l : List PV} {j : Nat} : iK [e] 0 j l = [e.take j ++ l ++ e.drop (j + l.length)] := by simp [iK]
@[simp] theorem anJ {e : List PV} {n : Nat} : s7 [e] 0 n = (n ≤ e.length) := by simp [s7]
@[simp] theorem anK {E : Env} {σ : PS} {t : Tmp} {rs : List ResultVar} {K : List PV → Prop} : pN E σ (.tmp t :: rs) K = pN E σ rs fun vs => K (σ.f t :: vs) := rfl
@[simp] theorem anL {E : Env} {σ : PS} {K : List PV → Prop} : pN E σ [] K = K [] := rfl
@[simp] theorem akg {E : Env} {σ : PS} {a : Tmp} {t : TypeId} {rs : List ResultVar} {K : List PV → Prop} : pN E σ (.cell a t :: rs) K = kI E t σ.rows (σ.f a) fun v => pN E σ rs fun vs => K (v :: vs) := by
 show (∃ v, sR E t σ.rows (σ.f a) v ∧ pN E σ rs fun vs => K (v :: vs)) = _
 rw [← tQ]; rfl
@[simp] theorem aeQ {E : Env} {ops : List Oper} {K : PS → Prop} {f : Nat → PV} {rows : Rows} {clk : Nat} : go (gQ E 0 ops K ⟨f, rows, clk⟩) = go (aO E ops clk 0 ops K ⟨f, rows, fun _ _ => False, fun _ _ => False⟩) := EH
theorem wrap_i64 {n : Int} (h1 : -9223372036854775808 ≤ n) (h2 : n < 9223372036854775808) : IntKind.i64.wrap n = n := by
 have e : IntKind.i64.wrap n = if n % 18446744073709551616 ≥ 9223372036854775808 then n % 18446744073709551616 - 18446744073709551616 else n % 18446744073709551616 := by
  simp [IntKind.wrap, IntKind.bits, IntKind.signed]
 rw [e]
 split <;> omega
theorem wrap_u64 {n : Int} (h1 : 0 ≤ n) (h2 : n < 18446744073709551616) : IntKind.u64.wrap n = n := by
 simp only [IntKind.wrap, IntKind.bits, IntKind.signed, Bool.false_and, Bool.false_eq_true, if_false]
 omega
theorem wrap_u32 {n : Int} (h1 : 0 ≤ n) (h2 : n < 4294967296) : IntKind.u32.wrap n = n := by
 simp only [IntKind.wrap, IntKind.bits, IntKind.signed, Bool.false_and, Bool.false_eq_true, if_false]
 omega
theorem wA : (∀ n : Int, -9223372036854775808 ≤ n → n < 9223372036854775808 → IntKind.i64.wrap n = n) ∧ (∀ n : Int, 0 ≤ n → n < 18446744073709551616 → IntKind.u64.wrap n = n) ∧ (∀ n : Int, 0 ≤ n → n < 4294967296 → IntKind.u32.wrap n = n) ∧
  (∀ a b : Int, 0 ≤ a → a.tdiv b = a / b) ∧ (∀ a b : Int, 0 ≤ a → a.tmod b = a % b) := ⟨fun _ => wrap_i64, fun _ => wrap_u64, fun _ => wrap_u32, fun _ _ h => Int.tdiv_eq_ediv_of_nonneg h, fun _ _ h => Int.tmod_eq_emod_of_nonneg h⟩
theorem gw : (∀ {c B : Prop}, c → aH c B = go B) ∧ (∀ n : Int, -9223372036854775808 ≤ n → n < 9223372036854775808 → IntKind.i64.wrap n = n) ∧ (∀ n : Int, 0 ≤ n → n < 18446744073709551616 → IntKind.u64.wrap n = n) ∧ (∀ n : Int, 0 ≤ n → n < 4294967296 → IntKind.u32.wrap n = n) ∧
  (∀ a b : Int, 0 ≤ a → a.tdiv b = a / b) ∧ (∀ a b : Int, 0 ≤ a → a.tmod b = a % b) := ⟨gA, wA⟩
theorem wrap_u8 {n : Int} (h1 : 0 ≤ n) (h2 : n < 256) : IntKind.u8.wrap n = n := by
 simp only [IntKind.wrap, IntKind.bits, IntKind.signed, Bool.false_and, Bool.false_eq_true, if_false]
 omega
theorem jA {n : Int} : IntKind.u64.wrap n = n % 18446744073709551616 := by
 simp only [IntKind.wrap, IntKind.bits, IntKind.signed, Bool.false_and, Bool.false_eq_true, if_false]
 rfl
theorem wrap_u32' {n : Int} : IntKind.u32.wrap n = n % 4294967296 := by
 simp only [IntKind.wrap, IntKind.bits, IntKind.signed, Bool.false_and, Bool.false_eq_true, if_false]
 rfl
section
variable {E : Env} {n : Nat} {tl : Nat → Nat} {Q : PX → PS → Prop} {σ : PS}
theorem W.b8 {id : Nat} {ops : List Oper} (h : ∀ K : PS → Prop, (∀ σ, Q .normal σ → K σ) → go (aM E ops ops K σ)) : W E n tl (.region id ops.toArray false) Q σ := W.KH h
theorem W.N7 {id : Nat} {ops : List Oper} (h : ∀ K : PS → Prop, (∀ σ, Q .normal σ → K σ) → go (gQ E (tl id) ops K σ)) : W E n tl (.region id ops.toArray true) Q σ := W.aac h
theorem W.dY {id : Nat} {ops : List Oper} {y : Code} (h : ∀ K : PS → Prop, (∀ σ, W E n tl y Q σ → K σ) → go (aM E ops ops K σ)) : W E n tl (.seq (.region id ops.toArray false) y) Q σ := W.O4 h
theorem W.aeR {id : Nat} {ops : List Oper} {y : Code} (h : ∀ K : PS → Prop, (∀ σ, W E n tl y Q σ → K σ) → go (gQ E (tl id) ops K σ)) : W E n tl (.seq (.region id ops.toArray true) y) Q σ := W.aad h
end
section
variable {E : Env} {n : Nat} {tl : Nat → Nat} {Q : PX → PS → Prop} {σ : PS}
theorem W.bC {c : Code} (I : Nat → PS → Prop) (k : Nat) (h0 : ∃ σ0, Gh n σ σ0 ∧ I k σ0) (h1 : ∀ k σ, I k σ → W E n tl c (D8 (fun σ' => ∃ m σ'', Gh n σ' σ'' ∧ m < k ∧ I m σ'') Q) σ) : W E n tl (.loop c) Q σ := by
 obtain ⟨σ0, hg, h0⟩ := h0
 refine W.ghost hg ?_
 refine W.loop (fun k σ => ∃ σ', Gh n σ σ' ∧ I k σ') k ⟨σ0, fun _ _ _ _ _ h => h, h0⟩ ?_
 rintro k σ ⟨σ', hg, hI⟩
 refine W.ghost hg (W.mono (h1 k σ' hI) fun x τ hx => ?_)
 cases x with
 | normal => obtain ⟨m, σ'', h2, h3, h4⟩ := hx; exact ⟨m, h3, σ'', h2, h4⟩
 | exit id => exact hx
 | ret => exact hx
theorem Gh.refl : Gh n σ σ := fun _ _ _ _ _ h => h
theorem W.aaY {c : Operand} {t e : Code} (b : Prop) [Decidable b] (hc : aR σ.f c = .bool (decide b)) (h1 : b → W E n tl t Q σ) (h2 : ¬ b → W E n tl e Q σ) : W E n tl (.cond c t e) Q σ := W.cond ⟨_, hc, fun h => h1 (of_decide_eq_true h), fun h => h2 (of_decide_eq_false h)⟩
theorem W.ghf {f : Nat → PV} {rows : Rows} {clk : Nat} {c : Code} (l : List (Nat × PV)) (hl : ∀ p ∈ l, f p.1 = p.2) (h : W E n tl c Q ⟨fa l, rows, clk⟩) : W E n tl c Q ⟨f, rows, clk⟩ := by
 have := aB (f := f) (rows := rows) (clk := clk) n (l.map (·.1))
 have e : ((l.map (·.1)).map fun i => (i, f i)) = l := by
  rw [List.map_map]
  conv => rhs; rw [← List.map_id l]
  exact List.map_congr_left fun p hp => by simp [hl p hp]
 rw [e] at this
 exact W.ghost this h
theorem Gh.fr {f : Nat → PV} {rows : Rows} {clk : Nat} (l : List (Nat × PV)) (hl : ∀ p ∈ l, f p.1 = p.2) : Gh n ⟨f, rows, clk⟩ ⟨fa l, rows, clk⟩ := by
 have := aB (f := f) (rows := rows) (clk := clk) n (l.map (·.1))
 have e : ((l.map (·.1)).map fun i => (i, f i)) = l := by
  rw [List.map_map]
  conv => rhs; rw [← List.map_id l]
  exact List.map_congr_left fun p hp => by simp [hl p hp]
 rw [e] at this
 exact this
end
theorem cT {E : Env} {A8 : FuncId} {fn : Func} {code : Code} (tl : Nat → Nat) {args : List PV} {r : PV} (l : List (Nat × PV)) (h1 : E.P.funcs[A8]? = some fn) (h2 : fn.body = some code) (h3 : (fn.name == "runtime.NumGoroutine") = false)
  (gK : eS E fn.ntmps tl code = true) (gB : args.length ≤ fn.ntmps) (hl : ∀ p ∈ l, args.getD p.1 .undef = p.2) (h : W E fn.ntmps tl code (Z9 E fn.results.toList r) ⟨fa l, fun _ => none, 0⟩) : aG E.P A8 args r :=
 aae tl h1 h2 h3 gK gB (W.ghf l (by simpa using hl) h)
end Pm
namespace Pm
@[simp] theorem atf {a : Int} : Int.fdiv a 4294967296 = a / 4294967296 := Int.fdiv_eq_ediv_of_nonneg a (by decide)
@[simp] theorem atg {a : Int} : Int.fdiv a 9223372036854775808 = a / 9223372036854775808 := Int.fdiv_eq_ediv_of_nonneg a (by decide)
attribute [simp] Go.IntKind.bits
end Pm
namespace Pm
open Go Go.RowKit
section
variable {E : Env} {n : Nat} {tl : Nat → Nat} {Q : PX → PS → Prop} {σ : PS}
theorem W.gS {x y : Code} (J : PS → Prop) (h : W E n tl x (D8 (fun σ => ∃ σ', Gh n σ σ' ∧ J σ') Q) σ) (hy : ∀ σ, J σ → W E n tl y Q σ) : W E n tl (.seq x y) Q σ :=
 W.seq (W.mono h fun x σ hx => by
  cases x with
  | normal => obtain ⟨σ', hg, hJ⟩ := hx; exact W.ghost hg (hy σ' hJ)
  | exit id => exact hx
  | ret => exact hx)
def PY (J : PS → Prop) (Q : PX → PS → Prop) : PX → PS → Prop
 | .normal, σ => J σ
 | .exit id, σ => Q (.exit id) σ
 | .ret, σ => Q .ret σ
theorem W.eT {id : Nat} {x y : Code} (J : PS → Prop) (h : W E n tl x (D9 id (PY (fun σ => ∃ σ', Gh n σ σ' ∧ J σ') Q)) σ) (hy : ∀ σ, J σ → W E n tl y Q σ) : W E n tl (.seq (.block id x) y) Q σ :=
 W.seq (W.block (W.mono h fun x σ hx => by
  cases x with
  | normal => obtain ⟨σ', hg, hJ⟩ := hx; exact W.ghost hg (hy σ' hJ)
  | exit j =>
   simp only [D9] at hx ⊢
   split
   ·rename_i hj; rw [if_pos hj] at hx; obtain ⟨σ', hg, hJ⟩ := hx; exact W.ghost hg (hy σ' hJ)
   ·rename_i hj; rw [if_neg hj] at hx; exact hx
  | ret => exact hx))
theorem W.gM {id : Nat} {ops : List Oper} {y : Code} (J : PS → Prop) (h : ∀ K : PS → Prop, (∀ σ σ', Gh n σ σ' → J σ' → K σ) → go (aM E ops ops K σ)) (hy : ∀ σ, J σ → W E n tl y Q σ) : W E n tl (.seq (.region id ops.toArray false) y) Q σ :=
 W.dY fun K hK => h K fun σ _ hg hJ => hK σ (W.ghost hg (hy _ hJ))
@[simp] theorem ahH {J : PS → Prop} : PY J Q .normal σ = J σ := rfl
@[simp] theorem apT {J : PS → Prop} : PY J Q .ret σ = Q .ret σ := rfl
@[simp] theorem anM {J : PS → Prop} {id : Nat} : PY J Q (.exit id) σ = Q (.exit id) σ := rfl
@[simp] theorem ahI {J : PS → Prop} : D8 J Q .normal σ = J σ := rfl
@[simp] theorem apU {J : PS → Prop} : D8 J Q .ret σ = Q .ret σ := rfl
@[simp] theorem anN {J : PS → Prop} {id : Nat} : D8 J Q (.exit id) σ = Q (.exit id) σ := rfl
@[simp] theorem ahJ {id : Nat} : D9 id Q .normal σ = Q .normal σ := rfl
@[simp] theorem apV {id : Nat} : D9 id Q .ret σ = Q .ret σ := rfl
@[simp] theorem anO {id j : Nat} : D9 id Q (.exit j) σ = if j = id then Q .normal σ else Q (.exit j) σ := rfl
theorem pX : (∀ (Q : PX → PS → Prop) (σ : PS) (id j : Nat), D9 id Q (.exit j) σ = if j = id then Q .normal σ else Q (.exit j) σ) ∧ (∀ (Q : PX → PS → Prop) (σ : PS) (id : Nat), D9 id Q .normal σ = Q .normal σ) ∧ (∀ (Q : PX → PS → Prop) (σ : PS) (id : Nat), D9 id Q .ret σ = Q .ret σ) ∧
  (∀ (J : PS → Prop) (Q : PX → PS → Prop) (σ : PS) (id : Nat), D8 J Q (.exit id) σ = Q (.exit id) σ) ∧ (∀ (J : PS → Prop) (Q : PX → PS → Prop) (σ : PS), D8 J Q .normal σ = J σ) ∧ (∀ (J : PS → Prop) (Q : PX → PS → Prop) (σ : PS), D8 J Q .ret σ = Q .ret σ) ∧
  (∀ (J : PS → Prop) (Q : PX → PS → Prop) (σ : PS) (id : Nat), PY J Q (.exit id) σ = Q (.exit id) σ) ∧ (∀ (J : PS → Prop) (Q : PX → PS → Prop) (σ : PS), PY J Q .normal σ = J σ) ∧ (∀ (J : PS → Prop) (Q : PX → PS → Prop) (σ : PS), PY J Q .ret σ = Q .ret σ) :=
 ⟨fun _ _ _ _ => rfl, fun _ _ _ => rfl, fun _ _ _ => rfl, fun _ _ _ _ => rfl, fun _ _ _ => rfl, fun _ _ _ => rfl, fun _ _ _ _ => rfl, fun _ _ _ => rfl, fun _ _ _ => rfl⟩
end
end Pm
namespace Pm
open Go
theorem apW {P : Program} {g : FuncId} {gL : List PV} {rows : Rows} {clk : Nat} {K : PV → Rows → Nat → Prop} {R : PV → Rows → Nat → Prop} (h : VT P g gL rows clk R) (hK : ∀ r rows' kF, R r rows' kF → go (K r rows' kF)) : yC P g gL rows clk K := ⟨R, h, hK⟩
theorem aD {P : Program} {g : FuncId} {args : List PV} {K : PV → Prop} {v : PV} (h : aG P g args v) (hK : go (K v)) : u5 P g args K := ⟨v, h, hK⟩
theorem W.aaZ {E : Env} {n : Nat} {tl : Nat → Nat} {c : Code} {Q : PX → PS → Prop} {f : Nat → PV} {rows : Rows} {clk : Nat} (l : List Nat) (h : ∀ K : PS → Prop, (∀ σ, W E n tl c Q σ → K σ) → K ⟨fa (l.map fun i => (i, f i)), rows, clk⟩) : W E n tl c Q ⟨f, rows, clk⟩ := W.live l (h _ fun _ h => h)
theorem W.lv {E : Env} {n : Nat} {tl : Nat → Nat} {c : Code} {Q : PX → PS → Prop} {f : Nat → PV} {rows : Rows} {clk : Nat} {K0 : PS → Prop} (l : List Nat) (hK : ∀ σ, W E n tl c Q σ → K0 σ) (h : ∀ K : PS → Prop, (∀ σ, W E n tl c Q σ → K σ) → K ⟨fa (l.map fun i => (i, f i)), rows, clk⟩) : K0 ⟨f, rows, clk⟩ := hK _ (W.aaZ l h)
inductive Bx (P : PS → Prop) : Type
  | mk
def aW {P : PS → Prop} (_ : Bx P) (σ : PS) : Prop := P σ
theorem W.lw {E : Env} {n : Nat} {tl : Nat → Nat} {c : Code} {Q : PX → PS → Prop} {f : Nat → PV} {rows : Rows} {clk : Nat} {K0 : PS → Prop} (l : List Nat) (hK : ∀ σ, W E n tl c Q σ → K0 σ) (h : aW (Bx.mk (P := W E n tl c Q)) ⟨fa (l.map fun i => (i, f i)), rows, clk⟩) : K0 ⟨f, rows, clk⟩ := hK _ (W.aaZ l fun _ q => q _ h)
theorem W.lx {E : Env} {n : Nat} {tl : Nat → Nat} {c : Code} {Q : PX → PS → Prop} {f : Nat → PV} {rows : Rows} {clk : Nat} (l : List Nat) (h : aW (Bx.mk (P := W E n tl c Q)) ⟨fa (l.map fun i => (i, f i)), rows, clk⟩) : aW (Bx.mk (P := W E n tl c Q)) ⟨f, rows, clk⟩ := W.aaZ l fun _ q => q _ h
theorem W.sr {E : Env} {n : Nat} {tl : Nat → Nat} {Q : PX → PS → Prop} {σ : PS} {id : Nat} {ops : List Oper} {y : Code} (h : go (aM E ops ops (aW (Bx.mk (P := W E n tl y Q))) σ)) : W E n tl (.seq (.region id ops.toArray false) y) Q σ := by
  refine W.seq ?_
  intro gK w0 S0 G a w Q' hR hQ
  simp only [eS, qJ, Bool.and_eq_true] at gK
  refine wp_region_list (gV (fun σ' a' w' hk lE => hQ .normal σ' a' w' hk lE) _ σ a w (fun o ho t ht => ?_) h hR)
  have := Array.all_eq_true_iff_forall_mem.1 gK.1 o (by simpa using ho)
  simpa [ht] using this
theorem W.sd {E : Env} {n : Nat} {tl : Nat → Nat} {Q : PX → PS → Prop} {σ : PS} {id : Nat} {ops : List Oper} {y : Code} (h : go (gQ E (tl id) ops (aW (Bx.mk (P := W E n tl y Q))) σ)) : W E n tl (.seq (.region id ops.toArray true) y) Q σ := by
  refine W.seq ?_
  intro gK w0 S0 G a w Q' hR hQ
  exact sZ (by simpa [eS] using gK) h hR fun σ' a' w' hk lE => hQ .normal σ' a' w' hk lE
end Pm
namespace Pm
open Go Go.RowKit
def Wk (p q : PV) : Prop := q = p ∨ (p = .nil ∧ q = .sl [])
theorem Wk.rep {c : Cx} {p q : PV} {v : Value} (h : Wk p q) (hr : aQ c p v) : aQ c q v := by
 rcases h with rfl | ⟨rfl, rfl⟩
 ·exact hr
 ·simp only [aQ, c9] at hr ⊢
  exact ⟨none, 0, by simpa using hr, by simp, by simp, .inl trivial⟩
theorem bB.flat {α β : Type} {R : α → β → Prop} : ∀ {l : List (List α)} {m : List (List β)}, bB (bB R) l m → bB R l.flatten m.flatten
 | [], [], _ => trivial
 | a :: l, b :: m, h => by
  obtain ⟨h1, h2⟩ := h
  have ih := bB.flat h2
  clear h2
  induction a generalizing b with
  | nil => cases b with
   | nil => exact ih
   | cons => exact h1.elim
  | cons x a iha => cases b with
   | nil => exact h1.elim
   | cons y b => exact ⟨h1.1, iha b h1.2⟩
theorem akh {n id ver e m clk : Nat} {f : Nat → PV} {rows : Rows} {els G1 : List (List PV)} (hr : rows id = some ⟨ver, e, m, els⟩) (hw : bB (bB fun q p => Wk p q) G1 els) : Gh n ⟨f, rows, clk⟩ ⟨f, dZ rows id (some ⟨ver, e, m, G1⟩), clk⟩ := by
 rintro w0 S0 G a w ⟨⟨c, rfl, vA, fX, hI, hf, hG⟩, h7, h8⟩
 have lA : c.rows id = some ⟨ver, e, m, els⟩ := by rw [vA]; exact hr
 obtain ⟨⟨xs, g1, g2, g3⟩, g4, g5, g6⟩ := hI.row id _ lA
 have hlen : G1.length = els.length := hw.length
 obtain ⟨wQ, hA⟩ := hI.dZ (w' := c.w) (r' := ⟨ver, e, m, G1⟩) (xs := xs) lA (World.grownBy.refl _ _) (by simp only [hlen]; exact g1)
  (by
   have h1 := bB.flat hw
   have : ∀ {l : List PV} {k : List PV} {vs : List Value}, bB (fun q p => Wk p q) l k → bB (aQ c) k vs → bB (aQ c) l vs := by
    intro l
    induction l with
    | nil => intro k vs h h'; cases k with
     | nil => exact h'
     | cons => exact h.elim
    | cons x l ih => intro k vs h h'; cases k with
     | nil => exact h.elim
     | cons y k => cases vs with
      | nil => exact h'.elim
      | cons v vs => exact ⟨h.1.rep h'.1, ih h.2 h'.2⟩
   exact this h1 g2) g3 (fun el mF => by
   obtain ⟨k, hk⟩ := List.getElem?_of_mem mF
   obtain ⟨b, hb, h1⟩ := hw.get hk
   rw [h1.length]
   exact g4 b (List.mem_of_getElem? hb)) rfl rfl hlen
 refine ⟨⟨{ c with rows := dZ c.rows id (some ⟨ver, e, m, G1⟩) }, rfl, by simp [vA], fX, wQ, fun s => aJ.tG hA _ _ (hf s), fun p hp => aJ.tG hA _ _ (hG p hp)⟩, h7, h8⟩
theorem aki {n s id e m clk : Nat} {f : Nat → PV} {rows : Rows} (hs : f s = .nil) (hm : 0 < m) : Gh n ⟨f, rows, clk⟩ ⟨put f (some s) (.own id clk 0 0), dZ rows id (some ⟨clk, e, m, []⟩), clk + 1⟩ := by
 rintro w0 S0 G a w ⟨⟨c, rfl, vA, fX, hI, hf, hG⟩, h7, h8⟩
 obtain ⟨wQ, hA⟩ := hI.set (w' := c.w) (ob := none) (id := id) (r' := ⟨clk, e, m, []⟩) (v' := .slice none 0 0) (xs := []) (World.grownBy.refl _ _) (by simp) ⟨by simp, .inl ⟨rfl, rfl⟩⟩ (by simp [bB]) (by simp) (by simp) hm (by simp [Value.ownBlock]) (fun hu => Nat.lt_irrefl _ (fX _ hu))
 refine ⟨⟨{ c with β := dZ c.β id (.slice none 0 0), rows := dZ c.rows id (some ⟨clk, e, m, []⟩), used := fun v => v = clk ∨ c.used v }, rfl, by simp [vA], fun v hv => by
  show v < clk + 1
  rcases hv with rfl | hv
  ·omega
  ·have : v < clk := fX v hv
   omega, wQ, fun t => ?_, fun p hp => aJ.tG hA _ _ (hG p hp)⟩, h7, h8⟩
 simp only [put]
 split
 ·rename_i ht
  subst ht
  have h1 := hf t
  simp only at h1
  rw [hs] at h1
  simp only [aJ, aQ, c9] at h1
  simp only [aJ, aQ]
  refine ⟨.inl (by first | rfl | trivial), fun r hr hv => ?_⟩
  simp only [gT, Option.some.injEq] at hr
  subst hr
  exact ⟨by simp, .inl ⟨trivial, none, 0, 0, by simp [dZ], h1⟩⟩
 ·exact aJ.tG hA _ _ (hf t)
theorem K4 {α β : Type} {R : α → β → Prop} {x : α} {y : β} (h : R x y) : ∀ k : Nat, bB R (List.replicate k x) (List.replicate k y)
 | 0 => trivial
 | k + 1 => ⟨h, K4 h k⟩
section
variable {E : Env} {n : Nat} {tl : Nat → Nat} {Q : PX → PS → Prop} {c : Code} {f : Nat → PV} {rows : Rows} {clk : Nat}
theorem W.row {id ver e m : Nat} {els : List (List PV)} (G1 : List (List PV)) (hr : rows id = some ⟨ver, e, m, els⟩) (hw : bB (bB fun q p => Wk p q) G1 els) (h : W E n tl c Q ⟨f, dZ rows id (some ⟨ver, e, m, G1⟩), clk⟩) : W E n tl c Q ⟨f, rows, clk⟩ := W.ghost (akh hr hw) h
theorem W.nil (s id e m : Nat) (hs : f s = .nil) (hm : 0 < m) (h : ∀ K : PS → Prop, (∀ σ, W E n tl c Q σ → K σ) → K ⟨put f (some s) (.own id clk 0 0), dZ rows id (some ⟨clk, e, m, []⟩), clk + 1⟩) : W E n tl c Q ⟨f, rows, clk⟩ := W.ghost (aki hs hm) (h _ fun _ h => h)
end
def fzP (o : Option Row) (ver i j : Nat) : PV :=
 match o with
 | some r => if r.ver = ver then .rd ((r.els.getD i []).drop j) else .undef
 | none => .undef
@[simp] theorem avd {rows : Rows} {id ver i j : Nat} : fz rows (.ptr id ver i j) = fzP (rows id) ver i j := rfl
@[simp] theorem ave {rows : Rows} {id ver i j : Nat} : pz rows (.ptr id ver i j) = fzP (rows id) ver i j := rfl
@[simp] theorem ath {ver e n : Nat} {el : List PV} : fzP (some ⟨ver, e, n, [el]⟩) ver 0 0 = .rd el := by simp [fzP]
@[simp] theorem apX {id ver i j : Nat} : dX (.ptr id ver i j) = [id] := rfl
@[simp] theorem ahK {ver e n : Nat} {el : List PV} : dC (some ⟨ver, e, n, [el]⟩) = ∀ p ∈ el, cM p = true := by simp [dC]
end Pm
namespace Pm
open Go
theorem eJ {E : Env} {m : Nat} {ops : List Oper} {K : PS → Prop} {f : Nat → PV} {rows : Rows} {clk : Nat} : go (gQ E (m + 1) ops K ⟨f, rows, clk⟩) = go (aO E ops clk 0 (ops.take (ops.length - (m + 1))) (aM E ops (ops.drop (ops.length - (m + 1))) K) ⟨f, rows, fun _ _ => False, fun _ _ => False⟩) := by
 simp [gQ]
end Pm
namespace Pm
open Go Go.RowKit
def JT (rows : Rows) (id : Nat) : PV → PV
 | .own i ver off len => if i = id then fz rows (.own i ver off len) else .own i ver off len
 | .ptr i ver a j => if i = id then fz rows (.ptr i ver a j) else .ptr i ver a j
 | p => p
def HO (rows : Rows) (id : Nat) : PV → PV
 | .ag l => .ag (l.map (JT rows id))
 | p => JT rows id p
theorem HP {w0 : World} {S0 : dW} {c : Cx} (hI : Inv w0 S0 c) {id : Nat} (hp : ∀ r, c.rows id = some r → ∀ e ∈ r.els, ∀ p ∈ e, cM p = true) {p : PV} {v : Value} (h : aQ c p v) : aQ (DU c [id]) (JT c.rows id p) v := by
 have wP : ∀ i ∈ [id], ∀ r, c.rows i = some r → ∀ e ∈ r.els, ∀ p ∈ e, cM p = true := by intro i hi; simp at hi; subst hi; exact hp
 have key : ∀ q : PV, aQ c q v → (∀ i ∈ a9 q, i ∈ [id]) → (fz c.rows q = .undef ∨ cM (fz c.rows q) = true) → aQ (DU c [id]) (fz c.rows q) v := by
  intro q hq hi ho
  rcases ho with ho | ho
  ·rw [ho]; simp [aQ]
  ·exact aQ.jO (GZ hI wP hq hi ho)
 cases p with
 | own i ver off len =>
  simp only [JT]
  split
  ·rename_i hi
   subst hi
   refine key _ h (by simp [a9]) ?_
   simp only [fz]
   cases c.rows i with
   | none => exact .inl rfl
   | some r =>
    simp only
    split
    ·exact .inr rfl
    ·exact .inl rfl
  ·exact aQ.tG (l9 c [id]) _ _ h
 | ptr i ver a j =>
  simp only [JT]
  split
  ·rename_i hi
   subst hi
   refine key _ h (by simp [a9]) ?_
   simp only [fz]
   cases c.rows i with
   | none => exact .inl rfl
   | some r =>
    simp only
    split
    ·exact .inr rfl
    ·exact .inl rfl
  ·exact aQ.tG (l9 c [id]) _ _ h
 | _ => exact aQ.tG (l9 c [id]) _ _ h
theorem TC {w0 : World} {S0 : dW} {c : Cx} (hI : Inv w0 S0 c) {id : Nat} (hp : ∀ r, c.rows id = some r → ∀ e ∈ r.els, ∀ p ∈ e, cM p = true) {p : PV} {v : Value} (h : aJ c p v) : aJ (DU c [id]) (HO c.rows id p) v := by
 cases p with
 | ag l =>
  obtain ⟨vs, h1, h2⟩ := h
  refine ⟨vs, h1, bB.dN (by simp [h2.length]) fun k a b ha hb => ?_⟩
  simp at ha
  obtain ⟨q, hq, rfl⟩ := ha
  obtain ⟨b', D3, hr⟩ := h2.get hq
  rw [hb] at D3; cases D3
  exact HP hI hp hr
 | _ =>
  simp only [aJ] at h
  have := HP hI hp h
  simp only [HO]
  exact (by
   first
    | (simp only [JT, aJ] at this ⊢; exact this)
    | (simp only [JT] at this ⊢
       split
       · rename_i hi; rw [if_pos hi] at this; simp only [fz] at this ⊢; revert this; split <;> (try split) <;> exact fun h => h
       · rename_i hi; rw [if_neg hi] at this; exact this))
theorem FI {rows : Rows} {id : Nat} : HO rows id .undef = .undef := rfl
theorem aa1 {l : List (Nat × PV)} {g : PV → PV} (hg : g .undef = .undef) : (fun s => g (fa l s)) = fa (l.map fun p => (p.1, g p.2)) := by
 funext s
 induction l with
 | nil => exact hg
 | cons p l ih =>
  obtain ⟨i, v⟩ := p
  simp only [fa, List.map_cons]
  split
  ·rfl
  ·exact ih
theorem WN {n clk : Nat} {l : List (Nat × PV)} {rows : Rows} (id : Nat) (hp : dC (rows id)) : Gh n ⟨fa l, rows, clk⟩ ⟨fa (l.map fun p => (p.1, HO rows id p.2)), E3 rows [id], clk⟩ := by
 rintro w0 S0 G a w ⟨⟨c, rfl, vA, fX, hI, hf, hG⟩, h7, h8⟩
 have aa2 : c.rows = rows := vA
 subst aa2
 refine ⟨⟨DU c [id], rfl, rfl, fX, hI.freeze [id], fun s => ?_, fun p hp => aJ.tG (l9 c [id]) _ _ (hG p hp)⟩, h7, h8⟩
 rw [← aa1 (g := HO c.rows id) FI]
 exact TC hI hp (hf s)
theorem W.freeze {E : Env} {n : Nat} {tl : Nat → Nat} {Q : PX → PS → Prop} {c : Code} {l : List (Nat × PV)} {rows : Rows} {clk : Nat} (id : Nat) (hp : dC (rows id)) (h : ∀ K : PS → Prop, (∀ σ, W E n tl c Q σ → K σ) → K ⟨fa (l.map fun p => (p.1, HO rows id p.2)), E3 rows [id], clk⟩) : W E n tl c Q ⟨fa l, rows, clk⟩ := W.ghost (WN id hp) (h _ fun _ h => h)
@[simp] theorem ati {rows : Rows} {id i ver off len : Nat} : HO rows id (.own i ver off len) = if i = id then fzR (rows i) ver off len else .own i ver off len := rfl
@[simp] theorem atj {rows : Rows} {id i ver a j : Nat} : HO rows id (.ptr i ver a j) = if i = id then fzP (rows i) ver a j else .ptr i ver a j := rfl
@[simp] theorem atk {α : Type} {g : α → List PV} {rows : Rows} {id : Nat} {l : List α} : HO rows id (aI g l) = aI g l := rfl
@[simp] theorem atl {rows : Rows} {id : Nat} {k : IntKind} {n : Int} : HO rows id (.int k n) = .int k n := rfl
@[simp] theorem apY {rows : Rows} {id : Nat} {b : Bool} : HO rows id (.bool b) = .bool b := rfl
@[simp] theorem atm {rows : Rows} {id : Nat} : HO rows id .nil = .nil := rfl
@[simp] theorem avf {rows : Rows} {id : Nat} {l : List (List PV)} : HO rows id (.sl l) = .sl l := rfl
@[simp] theorem atn {rows : Rows} {id : Nat} {l : List (List PV)} : HO rows id (.jN l) = .jN l := rfl
@[simp] theorem avg {rows : Rows} {id : Nat} {l : List PV} : HO rows id (.ag l) = .ag (l.map (JT rows id)) := rfl
@[simp] theorem ato {rows : Rows} {id : Nat} {k : IntKind} {n : Int} : JT rows id (.int k n) = .int k n := rfl
@[simp] theorem apZ {rows : Rows} {id : Nat} {b : Bool} : JT rows id (.bool b) = .bool b := rfl
@[simp] theorem atp {rows : Rows} {id : Nat} : JT rows id .nil = .nil := rfl
@[simp] theorem atq {α : Type} {g : α → List PV} {rows : Rows} {id : Nat} {l : List α} : JT rows id (aI g l) = aI g l := rfl
theorem aeT {n s clk : Nat} {f : Nat → PV} {rows : Rows} (q : PV) (hs : f s = .nil) (hq : q = .sl []) : Gh n ⟨f, rows, clk⟩ ⟨put f (some s) q, rows, clk⟩ := by
 rintro w0 S0 G a w ⟨⟨c, rfl, vA, fX, hI, hf, hG⟩, h7, h8⟩
 refine ⟨⟨c, rfl, vA, fX, hI, fun t => ?_, hG⟩, h7, h8⟩
 simp only [put]
 split
 ·rename_i ht
  subst ht
  have h1 := hf t
  simp only at h1
  rw [hs] at h1
  subst hq
  simp only [aJ] at h1 ⊢
  exact Wk.rep (.inr ⟨rfl, rfl⟩) h1
 ·exact hf t
theorem W.WO {E : Env} {n : Nat} {tl : Nat → Nat} {Q : PX → PS → Prop} {c : Code} {f : Nat → PV} {rows : Rows} {clk : Nat} (s : Nat) (q : PV) (hs : f s = .nil) (hq : q = .sl []) (h : ∀ K : PS → Prop, (∀ σ, W E n tl c Q σ → K σ) → K ⟨put f (some s) q, rows, clk⟩) : W E n tl c Q ⟨f, rows, clk⟩ := W.ghost (aeT q hs hq) (h _ fun _ h => h)
theorem aeU {c : Cx} {l : List (List PV)} {v : Value} (hr : aQ c (.jN l) v) : aQ c (.sl l) v := by
 simp only [aQ, c9] at hr ⊢
 obtain ⟨a, h1, h2, h3⟩ := hr
 exact ⟨a, l.length, h1, Nat.le_refl _, h2, h3⟩
theorem aeV {n s clk : Nat} {f : Nat → PV} {rows : Rows} (l : List (List PV)) (q : PV) (hs : f s = .jN l) (hq : q = .sl l) : Gh n ⟨f, rows, clk⟩ ⟨put f (some s) q, rows, clk⟩ := by
 rintro w0 S0 G a w ⟨⟨c, rfl, vA, fX, hI, hf, hG⟩, h7, h8⟩
 refine ⟨⟨c, rfl, vA, fX, hI, fun t => ?_, hG⟩, h7, h8⟩
 simp only [put]
 split
 ·rename_i ht
  subst ht
  have h1 := hf t
  simp only at h1
  rw [hs] at h1
  subst hq
  simp only [aJ] at h1 ⊢
  exact aeU h1
 ·exact hf t
theorem W.avh {E : Env} {n : Nat} {tl : Nat → Nat} {Q : PX → PS → Prop} {c : Code} {f : Nat → PV} {rows : Rows} {clk : Nat} (s : Nat) (l : List (List PV)) (q : PV) (hs : f s = .jN l) (hq : q = .sl l) (h : ∀ K : PS → Prop, (∀ σ, W E n tl c Q σ → K σ) → K ⟨put f (some s) q, rows, clk⟩) : W E n tl c Q ⟨f, rows, clk⟩ := W.ghost (aeV l q hs hq) (h _ fun _ h => h)
def BJ (rows : Rows) (id : Nat) : Option Row → Option Row
 | some r => some { r with els := r.els.map fun e => e.map (JT rows id) }
 | none => none
def EI (rows : Rows) (id : Nat) : Rows := fun j => if j = id then none else BJ rows id (rows j)
@[simp] theorem atr {rows : Rows} {id j : Nat} : EI rows id j = if j = id then none else BJ rows id (rows j) := rfl
@[simp] theorem ahL {rows : Rows} {id v e n : Nat} {els : List (List PV)} : BJ rows id (some ⟨v, e, n, els⟩) = some ⟨v, e, n, els.map fun e => e.map (JT rows id)⟩ := rfl
@[simp] theorem ahM {rows : Rows} {id : Nat} : BJ rows id none = none := rfl
@[simp] theorem att {rows : Rows} {id i ver off len : Nat} : JT rows id (.own i ver off len) = if i = id then fzR (rows i) ver off len else .own i ver off len := rfl
@[simp] theorem atu {rows : Rows} {id i ver a j : Nat} : JT rows id (.ptr i ver a j) = if i = id then fzP (rows i) ver a j else .ptr i ver a j := rfl
theorem PZ {n clk : Nat} {l : List (Nat × PV)} {rows : Rows} (id : Nat) (hp : dC (rows id)) : Gh n ⟨fa l, rows, clk⟩ ⟨fa (l.map fun p => (p.1, HO rows id p.2)), EI rows id, clk⟩ := by
 rintro w0 S0 G a w ⟨⟨c, rfl, vA, fX, hI, hf, hG⟩, h7, h8⟩
 have aa2 : c.rows = rows := vA
 subst aa2
 have J5 := hI.freeze [id]
 have live : ∀ {j : Nat} {r' : Row}, EI c.rows id j = some r' → j ≠ id ∧ ∃ r, c.rows j = some r ∧ r' = { r with els := r.els.map fun e => e.map (JT c.rows id) } := by
  intro j r' h
  simp only [EI] at h
  split at h
  ·cases h
  ·rename_i hj
   cases hr : c.rows j with
   | none => rw [hr] at h; cases h
   | some r => rw [hr] at h; simp only [BJ, Option.some.injEq] at h; exact ⟨hj, r, rfl, h.symm⟩
 have hA : tF (DU c [id]) { DU c [id] with rows := EI c.rows id } := by
  refine ⟨fun _ _ h => h, fun _ _ _ => rfl, fun _ h => h, fun j r' h => ?_⟩
  obtain ⟨hj, r, hr, rfl⟩ := live h
  exact .inr ⟨r, by simp [DU, E3, hj, hr], rfl, rfl, by simp, rfl⟩
 have hI2 : Inv w0 S0 { DU c [id] with rows := EI c.rows id } := by
  refine ⟨J5.below, J5.ext, J5.new, J5.lt0, fun j r' h => ?_, fun j r' h => ?_, fun i j r s g hr hs => ?_⟩
  ·obtain ⟨hj, r, hr, rfl⟩ := live h
   exact hI.clock j r hr
  ·obtain ⟨hj, r, hr, rfl⟩ := live h
   obtain ⟨⟨xs, g1, g2, g3⟩, g4, g5, g6⟩ := hI.row j r hr
   obtain ⟨_, _, f5, _⟩ := J5.row j r (by simp [DU, E3, hj, hr])
   refine ⟨⟨xs, by rw [List.length_map]; exact g1, ?_, g3⟩, fun e he => ?_, f5, g6⟩
   ·show bB _ (List.flatten (r.els.map fun e => e.map (JT c.rows id))) xs
    rw [← List.map_flatten]
    refine bB.dN (by rw [List.length_map]; exact g2.length) fun k p u wP hu => ?_
    rw [List.getElem?_map] at wP
    obtain ⟨q, hq, rfl⟩ := Option.map_eq_some_iff.1 wP
    obtain ⟨u', VP, lA⟩ := g2.get hq
    rw [hu] at VP; cases VP
    exact aQ.tG hA _ _ (HP hI hp lA)
   ·simp only [List.mem_map] at he
    obtain ⟨e', uS, rfl⟩ := he
    simpa using g4 e' uS
  ·obtain ⟨hi, r1, tR, rfl⟩ := live hr
   obtain ⟨hj, r2, dP, rfl⟩ := live hs
   exact hI.apart i j r1 r2 g tR dP
 refine ⟨⟨{ DU c [id] with rows := EI c.rows id }, rfl, rfl, fX, hI2, fun s => ?_, fun p hp => aJ.tG hA _ _ (aJ.tG (l9 c [id]) _ _ (hG p hp))⟩, h7, h8⟩
 show aJ _ (fa (l.map fun p => (p.1, HO c.rows id p.2)) s) _
 rw [← aa1 (g := HO c.rows id) FI]
 exact aJ.tG hA _ _ (TC hI hp (hf s))
theorem W.HQ {E : Env} {n : Nat} {tl : Nat → Nat} {Q : PX → PS → Prop} {c : Code} {l : List (Nat × PV)} {rows : Rows} {clk : Nat} (id : Nat) (hp : dC (rows id)) (h : ∀ K : PS → Prop, (∀ σ, W E n tl c Q σ → K σ) → K ⟨fa (l.map fun p => (p.1, HO rows id p.2)), EI rows id, clk⟩) : W E n tl c Q ⟨fa l, rows, clk⟩ := W.ghost (PZ id hp) (h _ fun _ h => h)
end Pm

namespace Pm
open Go
theorem bH (l : List Nat) {E : Env} {n : Nat} {tl : Nat → Nat} {c : Code} {Q : PX → PS → Prop} {f : Nat → PV} {rows : Rows} {clk : Nat} {X : Prop} (hX : X) (h : X → aW (Bx.mk (P := W E n tl c Q)) ⟨fa (l.map fun i => (i, f i)), rows, clk⟩ := by intro hX; simp; exact hX) : aW (Bx.mk (P := W E n tl c Q)) ⟨f, rows, clk⟩ := W.lx l (h hX)
theorem iU {X G : Prop} (hX : X) (h : X → G := by intro hX; refine W.sr ?_; simp (disch := omega) [gw]; exact hX) : G := h hX
theorem oE {X G : Prop} (hX : X) (h : X → G := by intro hX; refine W.sd ?_; simp (disch := omega) [gw]; exact hX) : G := h hX
theorem bZ {P X G : Prop} (hP : P) (hX : X) (h : P → X → G := by intro hP hX; refine aD hP ?_; simp (disch := omega) [gw]; exact hX) : G := h hP hX
section
variable (l : List Nat) {E : Env} {n : Nat} {tl : Nat → Nat} {c : Code} {Q : PX → PS → Prop} {f : Nat → PV} {rows : Rows} {clk : Nat} {P X G : Prop}
theorem aA (hX : X) (h1 : aW (Bx.mk (P := W E n tl c Q)) ⟨f, rows, clk⟩ → G := by intro hY; refine W.sr ?_; simp (disch := omega) [gw]; exact hY) (h2 : X → aW (Bx.mk (P := W E n tl c Q)) ⟨fa (l.map fun i => (i, f i)), rows, clk⟩ := by intro hX; simp; exact hX) : G := h1 (W.lx l (h2 hX))
theorem aL (hX : X) (h1 : aW (Bx.mk (P := W E n tl c Q)) ⟨f, rows, clk⟩ → G := by intro hY; refine W.seq ?_; refine W.sr ?_; simp (disch := omega) [gw]; exact hY) (h2 : X → aW (Bx.mk (P := W E n tl c Q)) ⟨fa (l.map fun i => (i, f i)), rows, clk⟩ := by intro hX; simp; exact hX) : G := h1 (W.lx l (h2 hX))
theorem cS (hX : X) (h1 : aW (Bx.mk (P := W E n tl c Q)) ⟨f, rows, clk⟩ → G := by intro hY; refine W.sr ?_; simp (disch := omega) [gw]; exact hY) (h2 : X → aW (Bx.mk (P := W E n tl c Q)) ⟨fa (l.map fun i => (i, f i)), rows, clk⟩ := by intro hX; simp; refine W.seq ?_; exact hX) : G := h1 (W.lx l (h2 hX))
theorem aK (hP : P) (hX : X) (h1 : P → aW (Bx.mk (P := W E n tl c Q)) ⟨f, rows, clk⟩ → G := by intro hP hY; refine W.sr ?_; simp (disch := omega) [gw]; refine aD hP ?_; simp (disch := omega) [gw]; exact hY) (h2 : X → aW (Bx.mk (P := W E n tl c Q)) ⟨fa (l.map fun i => (i, f i)), rows, clk⟩ := by intro hX; simp; exact hX) : G := h1 hP (W.lx l (h2 hX))
theorem cI (hP : P) (hX : X) (h1 : P → aW (Bx.mk (P := W E n tl c Q)) ⟨f, rows, clk⟩ → G := by intro hP hY; refine aD hP ?_; simp (disch := omega) [gw]; exact hY) (h2 : X → aW (Bx.mk (P := W E n tl c Q)) ⟨fa (l.map fun i => (i, f i)), rows, clk⟩ := by intro hX; simp; exact hX) : G := h1 hP (W.lx l (h2 hX))
end
theorem bE {X Y G : Prop} (hX : X) (hY : Y) (h : X → Y → G := by intro hX hY; refine W.cond ⟨_, rfl, ?_, ?_⟩; exact hX; exact hY) : G := h hX hY
theorem fB {X G : Prop} (hX : X) (h : X → G := by intro hX; refine W.exit ?_; simp only [pX, if_true, if_false, reduceIte, Nat.reduceEqDiff]; exact hX) : G := h hX
theorem bT {G : Prop} (h : G := by refine W.ret ?_; simp [go]) : G := h
theorem lG {X G : Prop} (hX : X) (h : X → G := by intro hX; refine W.skip ?_; refine W.seq ?_; refine W.block ?_; exact hX) : G := h hX
end Pm
