/-
  The framework of this work: abstract values and states, operations, regions, code, functions: proved sound over the model.
-/
import Derived.Test.YtenfiehjbeojeaaGreatDoorX3
set_option linter.unusedVariables false
set_option linter.unusedSimpArgs false
namespace Go.Ax
open Go.RowKit
universe u v
/-- What comes next, hidden from simp. -/
structure Dum {α : Sort u} (a : α) : Type where
def hid {α : Sort u} (a : α) (_ : Dum a) : α := a
def guardK (g : Option (Option Bool)) (want : Bool) (A C : Unit → Prop) : Prop := match g with
  | some b => if b = some want then A () else C ()
  | none => False
def boolA (v : AV) (d : Option Tmp) : Option (Option Bool) := match d with
  | some _ => match v with
    | .bool b => some (some b)
    | .tup [] => some none
    | _ => none
  | none => none
def globA (o : Option (List AV)) : AV := match o with | some cs => .lptr cs | none => .any
def tvK (o : Option TV) (f : TV → Prop) : Prop := match o with | some tv => f tv | none => False
def slK (tv : TV) (f : TypeId → Prop) : Prop := match tv.d with | .slice e => f e | _ => False
def arK (tv : TV) (f : Nat → TypeId → Prop) : Prop := match tv.d with | .array n e => f n e | _ => False
def elK (tv : TV) (f : TypeId → Prop) : Prop := match tv.d with | .slice e => f e | .array _ e => f e | _ => False
def suK (tv : TV) (f : List (Nat × TypeId) → Prop) : Prop := match tv.d with | .struct fs => f fs | _ => False
def inK (tv : TV) (f : IntKind → Prop) : Prop := match tv.d with | .int k => f k | _ => False
def plK (o : Option (List (Nat × Nat))) (f : List (Nat × Nat) → Prop) : Prop := match o with | some l => f l | none => False
def plC (off : Nat) (o : Option TV) (l : Option (List (Nat × Nat))) : Option (List (Nat × Nat)) := match o, l with
  | some tv, some r => some ((off, tv.size) :: r)
  | _, _ => none
def placeK (o : Option (Nat × Nat)) (f : Nat → Nat → Prop) : Prop := match o with | some (a, b) => f a b | none => False
def fpC (off : Nat) (o : Option TV) : Option (Nat × Nat) := match o with | some tv => some (off, tv.size) | none => none
def fldK (o : Option (Nat × TypeId)) (f : Nat → TypeId → Prop) : Prop := match o with | some (a, b) => f a b | none => False
def plS (sz : Nat) : Nat → Option (Nat × Nat) := fun i => some (i * sz, sz)
def fillL (pl : List (Nat × Nat)) (cells : List AV) (parts : List (Nat × AV)) : Option (List AV) := fillA (fun i => pl[i]?) cells parts
def fillC (os : Nat × Nat) (vs : Option (List AV)) (cs : List AV) (b : Bool) (k : List AV → Option (List AV)) : Option (List AV) := match b, vs with
  | true, some vs => if vs.length = os.2 ∧ os.1 + os.2 ≤ cs.length then k (overwrite cs os.1 vs) else none
  | _, _ => none
def callK (P : Program) (GE : Nat → Option (List AV)) (rows : List Row) (f : AV) (args : List AV) (k : AV → Prop) : Prop := ∃ r, ACall P GE ⟨[], rows⟩ f args r ∧ k r
def pickK (c x y : AV) (k : AV → Prop) : Prop := match c with
  | .bool t => k (if t then x else y)
  | _ => False
def optK (o : Option AV) (k : AV → Prop) : Prop := match o with
  | some v => k v
  | none => False
def cellsK (x : Option (List AV)) (k : List AV → Prop) : Prop := match x with
  | some vs => k vs
  | none => False
def loadK (cs : Option (List AV)) (tv : TV) (k : AV → Prop) : Prop := match cs with
  | some cs => optK (readAs tv cs) k
  | none => False
def binK (o : Option TV) (op : BinOp) (x y : AV) (k : AV → Prop) : Prop := match o with
  | some tv => optK (abin tv.d op x y) k
  | none => optK (abin .other op x y) k
def storeK (rows : List Row) (p : AV) (size : Nat) (vs : List AV) (k : List Row → Prop) : Prop := match p with
  | .ptr r ver off => match rows[r]? with
    | some row => row.ver = ver ∧ row.hot = true ∧ vs.length = size ∧ off + vs.length ≤ row.cells.length ∧ vs.all cell1 = true ∧ k (rows.set r ⟨ver, true, overwrite row.cells off vs⟩)
    | none => False
  | _ => False
def convK (x : AV) (k : Int → Prop) : Prop := match x with
  | .int _ n => k n
  | _ => False
def makeK (l c : AV) (etv : TV) (k : Nat → Prop) : Prop := match l, c with
  | .int _ n, .int _ m => 0 < etv.size ∧ n = m ∧ 0 ≤ n ∧ etv.bytes * n ≤ 281474976710656 ∧ n ≤ 9223372036854775807 ∧ etv.z.cells.size = etv.size ∧ k n.toNat
  | _, _ => False
def lenK (x : Option Nat) (k : Nat → Prop) : Prop := match x with
  | some n => k n
  | none => False
def natK (x : AV) (k : Nat → Prop) : Prop := match asNat x with
  | some n => k n
  | none => False
def aggK (x : AV) (k : List AV → Prop) : Prop := match x with
  | .agg cs => k cs
  | _ => False
def tupK (x : AV) (i : Nat) (k : AV → Prop) : Prop := match x with
  | .tup vs => match vs[i]? with
    | some v => k v
    | none => False
  | _ => False
def rowAt (rows : List Row) (r ver off : Nat) : Option (List AV) := match rows[r]? with
  | some row => if row.ver = ver then some (row.cells.drop off) else none
  | none => none
def rowIs (rows : List Row) (r ver : Nat) (k : Row → Prop) : Prop := match rows[r]? with
  | some row => row.ver = ver ∧ k row
  | none => False
def fieldK (rows : List Row) (p : AV) (off : Nat) (k : AV → Prop) : Prop := match p with
  | .ptr r ver o => match rows[r]? with
    | some row => row.ver = ver ∧ k (.ptr r ver (o + off))
    | none => False
  | .lptr cs => k (.lptr (cs.drop off))
  | _ => False
def indexK (rows : List Row) (x : AV) (tv : TV) (sz j : Nat) (k : AV → Prop) : Prop := match tv.d with
  | .slice _ => match x with
    | .lst n cs => (j < n ∧ j * sz < cs.length) ∧ k (.lptr (cs.drop (j * sz)))
    | .own r ver off n sz' => match rows[r]? with
      | some row => (row.ver = ver ∧ j < n ∧ sz' = sz) ∧ k (.ptr r ver (off + j * sz))
      | none => False
    | _ => False
  | .array n _ => match x with
    | .lptr cs => j < n ∧ k (.lptr (cs.drop (j * sz)))
    | _ => False
  | _ => False
def boundV (GE : Nat → Option (List AV)) (st : St) : Option Operand → AV
  | some q => eval GE st q
  | none => .int .i64 0
def hiV (n : Nat) : Option AV → Option Nat
  | some h => asNat h
  | none => some n
def mxOk (hi : Bool) (h n : Nat) : Option AV → Prop
  | none => True
  | some m => hi = true ∧ match asNat m with
    | some m => h ≤ m ∧ m ≤ n
    | none => False
def sliceK (x lo : AV) (hi mx : Option AV) (sz : Nat) (k : AV → Prop) : Prop :=
  match lenA x, asNat lo with
  | some n, some l => match hiV n hi with
    | some h => mxOk hi.isSome h n mx ∧ optK (asliceA sz x l h) k
    | none => False
  | _, _ => False
def appK (rows : List Row) (s : AV) (x : Option (Nat × List AV)) (tv : TV) (k : List Row → AV → Prop) : Prop := match x with
  | some (m, cs) => (cs.length = m * tv.size ∧ 0 < tv.size ∧ cs.all cell1 = true) ∧ match s with
    | .emp => if m = 0 then k rows .emp else ((m * tv.bytes ≤ 140737488355328 ∧ m ≤ 9223372036854775807) ∧ k (rows ++ [⟨0, true, cs⟩]) (.own rows.length 0 0 m tv.size))
    | .own r ver off n sz => match rows[r]? with
      | some row => (row.ver = ver ∧ row.hot = true ∧ off = 0 ∧ sz = tv.size ∧ row.cells.length = n * sz ∧ (n + m) * tv.bytes ≤ 140737488355328 ∧ n + m ≤ 9223372036854775807) ∧ k (rows.set r ⟨ver + 1, true, row.cells ++ cs⟩) (.own r (ver + 1) 0 (n + m) sz)
      | none => False
    | _ => False
  | none => False
theorem via_if {c : Prop} [Decidable c] {o : Option (St × AV)} {dst : Option Tmp} {K : St → Prop} {X : Prop} (h : viaO o dst K = X) : viaO (if c then o else none) dst K = (c ∧ X) := by
  by_cases hc : c
  · rw [if_pos hc, h]; exact propext ⟨fun x => ⟨hc, x⟩, fun x => x.2⟩
  · rw [if_neg hc]; exact propext ⟨False.elim, fun x => absurd x.1 hc⟩
theorem appK_eq (tv : TV) (st : St) (s x : AV) (dst : Option Tmp) (K : St → Prop) : viaO (appendA tv st s x) dst K = appK st.rows s (elems st.rows x) tv (fun rows' v => K (St.put { st with rows := rows' } dst v)) := by
  unfold appendA appK
  cases elems st.rows x with
  | none => rfl
  | some mc =>
    obtain ⟨m, cs⟩ := mc
    simp only
    refine via_if ?_
    cases s <;> simp only <;> try rfl
    · by_cases hm : m = 0
      · rw [if_pos hm, if_pos hm]; rfl
      · rw [if_neg hm, if_neg hm]; exact via_if rfl
    · rename_i r ver off n sz
      cases hr : st.rows[r]? with
      | none => rfl
      | some row => simp only; exact via_if rfl
theorem sliceK_eq (P : Program) (GE : Nat → Option (List AV)) (t : TypeId) (x : Operand) (lo hi mx : Option Operand) (dst : Option Tmp) (st : St) (K : St → Prop) :
    XOp P GE (.slice t x lo hi mx) dst st K = tvK (tvOf P t) (fun tv => slK tv (fun e => tvK (tvOf P e) (fun etv => sliceK (eval GE st x) (boundV GE st lo) (hi.map (eval GE st)) (mx.map (eval GE st)) etv.size (fun v => K (st.put dst v))))) := by
  have hlo : asNat (boundV GE st lo) = boundA GE st 0 lo := by cases lo <;> simp [boundV, boundA, asNat]
  simp only [XOp, aexec]
  cases tvOf P t with
  | none => rfl
  | some tv =>
    obtain ⟨d, sz0, by0, z0⟩ := tv
    simp only [tvK, slK, sliceK, hlo]
    cases hn : lenA (eval GE st x) with
    | none => cases d with
      | slice e => simp only; cases tvOf P e <;> rfl
      | _ => rfl
    | some n =>
      cases d <;> simp only <;> try rfl
      rename_i e
      cases tvOf P e with
      | none => rfl
      | some etv =>
        simp only
        have hhi : hiV n (hi.map (eval GE st)) = boundA GE st n hi := by cases hi <;> rfl
        cases hl : boundA GE st 0 lo with
        | none => cases boundA GE st n hi <;> rfl
        | some l =>
          simp only [hhi]
          cases hb : boundA GE st n hi with
          | none => rfl
          | some hh =>
            simp only
            have hopt : ∀ o : Option AV, viaO (o.map fun v => (st, v)) dst K = optK o (fun v => K (st.put dst v)) := fun o => by cases o <;> rfl
            cases mx with
            | none => simp only [Option.map_none, mxOk, true_and]; exact hopt _
            | some m =>
              cases hi with
              | none => simp [viaO, mxOk]
              | some q =>
                simp only [Option.map_some, Option.isSome_some, mxOk, true_and]
                cases hm : asNat (eval GE st m) with
                | none => simp [viaO]
                | some mm => simp only; exact via_if (hopt _)
theorem q_ops_cons : ∀ (P : Program) (GE : Nat → Option (List AV)) (ds : List (Option Tmp)) (d : Option Tmp) (op : Op) (t : TypeId) (p : String) (af : Array Edge) (g : Option (Nat × Bool)) (os : List Oper) (st : St) (K : St → Prop), XOps P GE ds (⟨d, op, t, p, af, g⟩ :: os) st K = XGOp P GE ds op d g st (fun s => XOps P GE (ds ++ [d]) os s K) :=
  fun _ _ _ _ _ _ _ _ _ _ _ _ => rfl
theorem q_g_some : ∀ (P : Program) (GE : Nat → Option (List AV)) (ds : List (Option Tmp)) (op : Op) (j : Nat) (want : Bool) (dst : Option Tmp) (st : St) (K : St → Prop), XGOp P GE ds op dst (some (j, want)) st K = guardK (gvalL ds st j) want (fun _ => XOp P GE op dst st K) (fun _ => K (st.put dst (.tup []))) :=
  fun P GE ds op j want dst st K => by unfold XGOp guardK; simp only; cases gvalL ds st j <;> rfl
theorem q_x_call : ∀ (P : Program) (GE : Nat → Option (List AV)) (f : Operand) (args : Array Operand) (ats : Array TypeId) (dst : Option Tmp) (st : St) (K : St → Prop), XOp P GE (.call ⟨.value f, args, ats⟩) dst st K = callK P GE st.rows (eval GE st f) (args.toList.map (eval GE st)) (fun r => K (st.put dst r)) :=
  fun _ _ _ _ _ _ _ _ => rfl
theorem q_x_pick : ∀ (P : Program) (GE : Nat → Option (List AV)) (c x y : Operand) (dst : Option Tmp) (st : St) (K : St → Prop), XOp P GE (.pick c x y) dst st K = pickK (eval GE st c) (eval GE st x) (eval GE st y) (fun v => K (st.put dst v)) :=
  fun P GE c x y dst st K => by simp only [XOp, aexec]; unfold pickK; cases eval GE st c <;> rfl
theorem q_x_alloc : ∀ (P : Program) (GE : Nat → Option (List AV)) (e : TypeId) (dst : Option Tmp) (st : St) (K : St → Prop), XOp P GE (.alloc e) dst st K = tvK (tvOf P e) (fun tv => K (St.put { st with rows := st.rows ++ [⟨0, true, zeros tv⟩] } dst (.ptr st.rows.length 0 0))) :=
  fun P GE e dst st K => by simp only [XOp, aexec]; cases tvOf P e <;> rfl
theorem q_x_box : ∀ (P : Program) (GE : Nat → Option (List AV)) (e : TypeId) (x : Operand) (dst : Option Tmp) (st : St) (K : St → Prop), XOp P GE (.box e x) dst st K = cellsK (vcells (eval GE st x)) (fun vs => K (St.put { st with rows := st.rows ++ [⟨0, true, vs⟩] } dst (.ptr st.rows.length 0 0))) :=
  fun P GE e x dst st K => by simp only [XOp, aexec]; unfold cellsK; cases vcells (eval GE st x) <;> rfl
theorem q_x_build : ∀ (P : Program) (GE : Nat → Option (List AV)) (t : TypeId) (parts : Array (Nat × Operand)) (dst : Option Tmp) (st : St) (K : St → Prop), XOp P GE (.build t parts) dst st K = tvK (tvOf P t) (fun tv => suK tv (fun fs => plK (placesA P fs) (fun pl => cellsK (fillL pl (zeros tv) (parts.toList.map fun p => (p.1, eval GE st p.2))) (fun cs => K (st.put dst (.agg cs)))))) :=
  fun P GE t parts dst st K => by
    simp only [XOp, aexec]
    cases tvOf P t with
    | none => rfl
    | some tv =>
      simp only [tvK, suK]
      cases tv.d <;> simp only <;> try rfl
      rename_i fs
      cases placesA P fs with
      | none => rfl
      | some pl => simp only [plK, cellsK, fillL]; cases fillA _ _ _ <;> rfl
theorem q_fill_cons : ∀ (pl : List (Nat × Nat)) (cs : List AV) (i : Nat) (v : AV) (l : List (Nat × AV)), fillL pl cs ((i, v) :: l) = fillC (pl.getD i (0, 0)) (vcells v) cs (decide (i < pl.length)) (fun cs' => fillL pl cs' l) :=
  fun pl cs i v l => by
    unfold fillC fillL
    simp only [fillA]
    by_cases hi : i < pl.length
    · rw [List.getD_eq_getElem?_getD, List.getElem?_eq_getElem hi]; cases vcells v <;> simp [hi]
    · rw [List.getElem?_eq_none (by omega)]; cases vcells v <;> simp [hi]
theorem q_x_buildSlice : ∀ (P : Program) (GE : Nat → Option (List AV)) (t : TypeId) (n : Nat) (parts : Array (Nat × Operand)) (dst : Option Tmp) (st : St) (K : St → Prop), XOp P GE (.buildSlice t n parts) dst st K = tvK (tvOf P t) (fun tv => slK tv (fun e => tvK (tvOf P e) (fun etv => (0 < etv.size ∧ n * etv.size ≤ 16777216 ∧ etv.z.cells.size = etv.size) ∧ cellsK (fillA (plS etv.size) ((List.replicate n (zeros etv)).flatten) (parts.toList.map fun p => (p.1, eval GE st p.2))) (fun cs => K (st.put dst (if n = 0 then .emp else .lst n cs)))))) :=
  fun P GE t n parts dst st K => by
    simp only [XOp, aexec]
    cases tvOf P t with
    | none => rfl
    | some tv =>
      simp only [tvK, slK]
      cases tv.d <;> simp only <;> try rfl
      rename_i e
      cases tvOf P e with
      | none => rfl
      | some etv => simp only; exact via_if (by unfold cellsK plS; cases fillA _ _ _ <;> rfl)
theorem q_fs_cons : ∀ (sz : Nat) (cs : List AV) (i : Nat) (v : AV) (l : List (Nat × AV)), fillA (plS sz) cs ((i, v) :: l) = fillC (i * sz, sz) (vcells v) cs true (fun cs' => fillA (plS sz) cs' l) :=
  fun sz cs i v l => by unfold fillC plS; simp only [fillA]; cases vcells v <;> rfl
theorem q_x_load : ∀ (P : Program) (GE : Nat → Option (List AV)) (t : TypeId) (p : Operand) (dst : Option Tmp) (st : St) (K : St → Prop), XOp P GE (.load t p) dst st K = tvK (tvOf P t) (fun tv => loadK (cellsAt st.rows (eval GE st p)) tv (fun v => K (st.put dst v))) :=
  fun P GE t p dst st K => by
    simp only [XOp, aexec]
    cases tvOf P t with
    | none => rfl
    | some tv =>
      cases cellsAt st.rows (eval GE st p) with
      | none => rfl
      | some cs => simp only [tvK, loadK, optK]; cases readAs tv cs <;> rfl
theorem q_x_store : ∀ (P : Program) (GE : Nat → Option (List AV)) (t : TypeId) (p x : Operand) (dst : Option Tmp) (st : St) (K : St → Prop), XOp P GE (.store t p x) dst st K = tvK (tvOf P t) (fun tv => cellsK (vcells (eval GE st x)) (fun vs => storeK st.rows (eval GE st p) tv.size vs (fun rows' => K (St.put { st with rows := rows' } dst .any)))) :=
  fun P GE t p x dst st K => by
    simp only [XOp, aexec]
    cases tvOf P t with
    | none => rfl
    | some tv =>
      simp only [tvK, cellsK, storeK]
      cases hp : eval GE st p <;> cases hv : vcells (eval GE st x) <;> simp only <;> try rfl
      rename_i r ver off vs
      cases hr : st.rows[r]? with
      | none => rfl
      | some row => simp only; rw [via_if rfl]; simp only [viaO, and_assoc]
theorem q_x_bin : ∀ (P : Program) (GE : Nat → Option (List AV)) (op : BinOp) (t u : TypeId) (x y : Operand) (dst : Option Tmp) (st : St) (K : St → Prop), XOp P GE (.binOp op t x y u) dst st K = binK (tvOf P t) op (eval GE st x) (eval GE st y) (fun v => K (st.put dst v)) :=
  fun P GE op t u x y dst st K => by
    simp only [XOp, aexec]
    unfold binK optK
    cases tvOf P t with
    | none => simp only; cases abin _ _ _ _ <;> rfl
    | some tv => simp only; cases abin _ _ _ _ <;> rfl
theorem q_x_un : ∀ (P : Program) (GE : Nat → Option (List AV)) (op : UnOp) (t : TypeId) (x : Operand) (dst : Option Tmp) (st : St) (K : St → Prop), XOp P GE (.unOp op t x) dst st K = optK (aun op (eval GE st x)) (fun v => K (st.put dst v)) :=
  fun P GE op t x dst st K => by simp only [XOp, aexec]; unfold optK; cases aun _ _ <;> rfl
theorem q_x_conv : ∀ (P : Program) (GE : Nat → Option (List AV)) (s t : TypeId) (x : Operand) (dst : Option Tmp) (st : St) (K : St → Prop), XOp P GE (.convert s t x) dst st K = tvK (tvOf P s) (fun _ => tvK (tvOf P t) (fun tv => inK tv (fun k => convK (eval GE st x) (fun n => K (st.put dst (.int k (k.wrap n))))))) :=
  fun P GE s t x dst st K => by
    simp only [XOp, aexec]
    cases tvOf P s with
    | none => rfl
    | some sv =>
      cases tvOf P t with
      | none => rfl
      | some tv => obtain ⟨d, sz0, by0, z0⟩ := tv; simp only [tvK, inK, convK]; cases eval GE st x <;> cases d <;> rfl
theorem q_x_make : ∀ (P : Program) (GE : Nat → Option (List AV)) (t : TypeId) (l c : Operand) (dst : Option Tmp) (st : St) (K : St → Prop), XOp P GE (.makeSlice t l c) dst st K = tvK (tvOf P t) (fun tv => slK tv (fun e => tvK (tvOf P e) (fun etv => makeK (eval GE st l) (eval GE st c) etv (fun n => K (St.put { st with rows := st.rows ++ [⟨0, true, (List.replicate n (zeros etv)).flatten⟩] } dst (.own st.rows.length 0 0 n etv.size)))))) :=
  fun P GE t l c dst st K => by
    simp only [XOp, aexec]
    cases tvOf P t with
    | none => rfl
    | some tv =>
      obtain ⟨d, sz0, by0, z0⟩ := tv
      simp only [tvK, slK, makeK]
      cases eval GE st l <;> cases eval GE st c <;> cases d <;> simp only <;> try rfl
      all_goals (cases tvOf P _ <;> try rfl)
      simp only; rw [via_if rfl]; simp only [viaO, and_assoc]
theorem q_x_slice : ∀ (P : Program) (GE : Nat → Option (List AV)) (t : TypeId) (x : Operand) (lo hi mx : Option Operand) (dst : Option Tmp) (st : St) (K : St → Prop), XOp P GE (.slice t x lo hi mx) dst st K = tvK (tvOf P t) (fun tv => slK tv (fun e => tvK (tvOf P e) (fun etv => sliceK (eval GE st x) (boundV GE st lo) (hi.map (eval GE st)) (mx.map (eval GE st)) etv.size (fun v => K (st.put dst v))))) :=
  fun P GE t x lo hi mx dst st K => sliceK_eq P GE t x lo hi mx dst st K
theorem q_x_fieldAddr : ∀ (P : Program) (GE : Nat → Option (List AV)) (s : TypeId) (p : Operand) (f : Nat) (dst : Option Tmp) (st : St) (K : St → Prop), XOp P GE (.fieldAddr s p f) dst st K = tvK (tvOf P s) (fun tv => suK tv (fun fs => placeK (fieldPlaceA P fs f) (fun off size => size ≠ 0 ∧ fieldK st.rows (eval GE st p) off (fun v => K (st.put dst v))))) :=
  fun P GE s p f dst st K => by
    simp only [XOp, aexec]
    cases tvOf P s with
    | none => rfl
    | some tv =>
      simp only [tvK, suK]
      cases tv.d <;> simp only <;> try rfl
      rename_i fs
      cases fieldPlaceA P fs f with
      | none => rfl
      | some os =>
        obtain ⟨off, size⟩ := os
        simp only [placeK]
        refine via_if ?_
        unfold fieldK
        cases eval GE st p <;> simp only <;> try rfl
        rename_i r ver o
        cases hr : st.rows[r]? with
        | none => rfl
        | some row => simp only; rw [via_if rfl]; rfl
theorem q_x_field : ∀ (P : Program) (GE : Nat → Option (List AV)) (s : TypeId) (x : Operand) (f : Nat) (dst : Option Tmp) (st : St) (K : St → Prop), XOp P GE (.field s x f) dst st K = tvK (tvOf P s) (fun tv => suK tv (fun fs => fldK (fs[f]?) (fun off t => tvK (tvOf P t) (fun ftv => aggK (eval GE st x) (fun cs => optK (readAs ftv (cs.drop off)) (fun v => K (st.put dst v))))))) :=
  fun P GE s x f dst st K => by
    simp only [XOp, aexec]
    cases tvOf P s with
    | none => rfl
    | some tv =>
      simp only [tvK, suK]
      cases tv.d <;> simp only <;> try rfl
      rename_i fs
      cases hf : fs[f]? with
      | none => simp only [fldK]; cases eval GE st x <;> simp only <;> try rfl
                rw [hf]; rfl
      | some ot =>
        obtain ⟨off, t⟩ := ot
        simp only [fldK]
        cases ht : tvOf P t with
        | none => cases eval GE st x <;> simp only <;> try rfl
                  rw [hf]; simp only [ht]; rfl
        | some ftv =>
          simp only [aggK]
          cases eval GE st x <;> simp only <;> try rfl
          rw [hf]; simp only [ht, optK]; cases readAs ftv _ <;> rfl
theorem q_x_index : ∀ (P : Program) (GE : Nat → Option (List AV)) (t : TypeId) (x i : Operand) (dst : Option Tmp) (st : St) (K : St → Prop), XOp P GE (.index t x i) dst st K = tvK (tvOf P t) (fun tv => arK tv (fun n e => tvK (tvOf P e) (fun etv => natK (eval GE st i) (fun j => aggK (eval GE st x) (fun cs => j < n ∧ optK (readAs etv (cs.drop (j * etv.size))) (fun v => K (st.put dst v))))))) :=
  fun P GE t x i dst st K => by
    simp only [XOp, aexec]
    cases tvOf P t with
    | none => rfl
    | some tv =>
      obtain ⟨d, sz0, by0, z0⟩ := tv
      simp only [tvK, arK, natK, aggK]
      cases d <;> cases asNat (eval GE st i) <;> cases eval GE st x <;> simp only <;> try rfl
      all_goals (cases tvOf P _ <;> try rfl)
      simp only; exact via_if (by simp only [optK]; cases readAs _ _ <;> rfl)
theorem q_x_indexAddr : ∀ (P : Program) (GE : Nat → Option (List AV)) (t : TypeId) (x i : Operand) (dst : Option Tmp) (st : St) (K : St → Prop), XOp P GE (.indexAddr t x i) dst st K = tvK (tvOf P t) (fun tv => natK (eval GE st i) (fun j => elK tv (fun e => tvK (tvOf P e) (fun etv => indexK st.rows (eval GE st x) tv etv.size j (fun v => K (st.put dst v)))))) :=
  fun P GE t x i dst st K => by
    simp only [XOp, aexec]
    cases tvOf P t with
    | none => rfl
    | some tv =>
      simp only [tvK, natK, elK]
      cases asNat (eval GE st i) with
      | none => rfl
      | some j =>
        simp only [indexK]
        cases tv.d <;> simp only <;> try rfl
        all_goals (cases tvOf P _ <;> try rfl)
        all_goals (simp only)
        · cases eval GE st x <;> simp only <;> try rfl
          · rw [via_if rfl]; rfl
          · rename_i r ver off n sz2
            cases hr : st.rows[r]? with
            | none => rfl
            | some row => simp only; rw [via_if rfl]; rfl
        · cases eval GE st x <;> simp only <;> try rfl
          rw [via_if rfl]; rfl
theorem q_ix_own : ∀ (rows : List Row) (r ver off n s2 : Nat) (e sz by_ : Nat) (z : Value) (es j : Nat) (k : AV → Prop), indexK rows (.own r ver off n s2) ⟨.slice e, sz, by_, z⟩ es j k = rowIs rows r ver (fun _ => (j < n ∧ s2 = es) ∧ k (.ptr r ver (off + j * es))) :=
  fun rows r ver off n s2 e sz by_ z es j k => by unfold indexK rowIs; simp only; cases rows[r]? <;> simp only [and_assoc]
theorem q_x_extract : ∀ (P : Program) (GE : Nat → Option (List AV)) (x : Operand) (i : Nat) (dst : Option Tmp) (st : St) (K : St → Prop), XOp P GE (.extract x i) dst st K = tupK (eval GE st x) i (fun v => K (st.put dst v)) :=
  fun P GE x i dst st K => by
    simp only [XOp, aexec]
    unfold tupK
    cases eval GE st x <;> simp only <;> try rfl
    rename_i vs
    cases vs[i]? <;> rfl
theorem q_x_len : ∀ (P : Program) (GE : Nat → Option (List AV)) (x : Operand) (t : TypeId) (dst : Option Tmp) (st : St) (K : St → Prop), XOp P GE (.call ⟨.builtin .len, #[x], #[t]⟩) dst st K = tvK (tvOf P t) (fun tv => slK tv (fun _ => lenK (lenA (eval GE st x)) (fun n => K (st.put dst (.int .i64 n))))) :=
  fun P GE x t dst st K => by
    simp only [XOp, aexec, List.map_cons, List.map_nil]
    cases tvOf P t with
    | none => rfl
    | some tv => obtain ⟨d, sz0, by0, z0⟩ := tv; simp only [tvK, slK, lenK]; cases lenA (eval GE st x) <;> cases d <;> rfl
theorem q_x_max : ∀ (P : Program) (GE : Nat → Option (List AV)) (x y : Operand) (ats : Array TypeId) (dst : Option Tmp) (st : St) (K : St → Prop), XOp P GE (.call ⟨.builtin .max, #[x, y], ats⟩) dst st K = optK (foldMM (fun x y => max x y) (eval GE st x) [eval GE st y]) (fun v => K (st.put dst v)) :=
  fun P GE x y ats dst st K => by simp only [XOp, aexec, List.map_cons, List.map_nil]; unfold optK; cases foldMM _ _ _ <;> rfl
theorem q_x_min : ∀ (P : Program) (GE : Nat → Option (List AV)) (x y : Operand) (ats : Array TypeId) (dst : Option Tmp) (st : St) (K : St → Prop), XOp P GE (.call ⟨.builtin .min, #[x, y], ats⟩) dst st K = optK (foldMM (fun x y => min x y) (eval GE st x) [eval GE st y]) (fun v => K (st.put dst v)) :=
  fun P GE x y ats dst st K => by simp only [XOp, aexec, List.map_cons, List.map_nil]; unfold optK; cases foldMM _ _ _ <;> rfl
theorem q_x_max3 : ∀ (P : Program) (GE : Nat → Option (List AV)) (x y u : Operand) (ats : Array TypeId) (dst : Option Tmp) (st : St) (K : St → Prop), XOp P GE (.call ⟨.builtin .max, #[x, y, u], ats⟩) dst st K = optK (foldMM (fun x y => max x y) (eval GE st x) [eval GE st y, eval GE st u]) (fun v => K (st.put dst v)) :=
  fun P GE x y u ats dst st K => by simp only [XOp, aexec, List.map_cons, List.map_nil]; unfold optK; cases foldMM _ _ _ <;> rfl
theorem q_x_append : ∀ (P : Program) (GE : Nat → Option (List AV)) (s x : Operand) (t : TypeId) (dst : Option Tmp) (st : St) (K : St → Prop), XOp P GE (.call ⟨.builtin .append, #[s, x], #[t, t]⟩) dst st K = tvK (tvOf P t) (fun tv => slK tv (fun e => tvK (tvOf P e) (fun etv => etv.z.cells.size = etv.size ∧ appK st.rows (eval GE st s) (elems st.rows (eval GE st x)) etv (fun rows' v => K (St.put { st with rows := rows' } dst v))))) :=
  fun P GE s x t dst st K => by
    simp only [XOp, aexec, List.map_cons, List.map_nil, if_true]
    cases tvOf P t with
    | none => rfl
    | some tv =>
      simp only [tvK, slK]
      cases tv.d <;> simp only <;> try rfl
      rename_i e
      cases tvOf P e with
      | none => rfl
      | some etv => simp only; exact via_if (appK_eq _ _ _ _ _ _)
theorem q_app_own : ∀ (rows : List Row) (r ver n sz m : Nat) (cs : List AV) (tv : TV) (k : List Row → AV → Prop), appK rows (.own r ver 0 n sz) (some (m, cs)) tv k = ((cs.length = m * tv.size ∧ 0 < tv.size ∧ cs.all cell1 = true) ∧ rowIs rows r ver (fun row => (row.hot = true ∧ sz = tv.size ∧ row.cells.length = n * sz ∧ (n + m) * tv.bytes ≤ 140737488355328 ∧ n + m ≤ 9223372036854775807) ∧ k (rows.set r ⟨ver + 1, true, row.cells ++ cs⟩) (.own r (ver + 1) 0 (n + m) sz))) :=
  fun rows r ver n sz m cs tv k => by unfold appK rowIs; simp only; cases rows[r]? <;> simp only [true_and, and_assoc]
theorem q_field_ptr : ∀ (rows : List Row) (r ver o off : Nat) (k : AV → Prop), fieldK rows (.ptr r ver o) off k = rowIs rows r ver (fun _ => k (.ptr r ver (o + off))) :=
  fun rows r ver o off k => by unfold fieldK rowIs; simp only
theorem q_store_ptr : ∀ (size : Nat) (rows : List Row) (r ver off : Nat) (vs : List AV) (k : List Row → Prop), storeK rows (.ptr r ver off) size vs k = rowIs rows r ver (fun row => row.hot = true ∧ vs.length = size ∧ off + vs.length ≤ row.cells.length ∧ vs.all cell1 = true ∧ k (rows.set r ⟨ver, true, overwrite row.cells off vs⟩)) :=
  fun size rows r ver off vs k => by
    unfold storeK rowIs
    simp only
theorem r_ops_nil : ∀ (P : Program) (GE : Nat → Option (List AV)) (ds : List (Option Tmp)) (st : St) (K : St → Prop), XOps P GE ds [] st K = K st :=
  fun _ _ _ _ _ => rfl
theorem r_ops_cons : ∀ (P : Program) (GE : Nat → Option (List AV)) (ds : List (Option Tmp)) (d : Option Tmp) (op : Op) (t : TypeId) (p : String) (af : Array Edge) (g : Option (Nat × Bool)) (os : List Oper) (st : St) (K : St → Prop), XOps P GE ds (⟨d, op, t, p, af, g⟩ :: os) st K = XGOp P GE ds op d g st (hid (fun s => XOps P GE (ds ++ [d]) os s K) ⟨⟩) :=
  q_ops_cons
theorem r_app0 : ∀ (x : Option Tmp), [] ++ [x] = [x] :=
  fun _ => rfl
theorem r_app1 : ∀ (x y : Option Tmp) (l : List (Option Tmp)), (x :: l) ++ [y] = x :: (l ++ [y]) :=
  fun _ _ _ => rfl
theorem r_g_none : ∀ (P : Program) (GE : Nat → Option (List AV)) (ds : List (Option Tmp)) (op : Op) (dst : Option Tmp) (st : St) (K : St → Prop), XGOp P GE ds op dst none st K = XOp P GE op dst st K :=
  fun _ _ _ _ _ _ _ => rfl
theorem r_g_some : ∀ (P : Program) (GE : Nat → Option (List AV)) (ds : List (Option Tmp)) (op : Op) (j : Nat) (want : Bool) (dst : Option Tmp) (st : St) (K : St → Prop), XGOp P GE ds op dst (some (j, want)) st K = guardK (gvalL ds st j) want (hid (fun _ => XOp P GE op dst st K) ⟨⟩) (hid (fun _ => K (st.put dst (.tup []))) ⟨⟩) :=
  q_g_some
theorem r_guard_tt : ∀ (A C : Unit → Prop), guardK (some (some true)) true A C = A () :=
  fun _ _ => rfl
theorem r_guard_ff : ∀ (A C : Unit → Prop), guardK (some (some false)) false A C = A () :=
  fun _ _ => rfl
theorem r_guard_tf : ∀ (A C : Unit → Prop), guardK (some (some true)) false A C = C () :=
  fun _ _ => rfl
theorem r_guard_ft : ∀ (A C : Unit → Prop), guardK (some (some false)) true A C = C () :=
  fun _ _ => rfl
theorem r_gval_eq : ∀ (ds : List (Option Tmp)) (tm : List AV) (rows : List Row) (j : Nat), gvalL ds ⟨tm, rows⟩ j = boolA (tm.getD ((ds.getD j none).getD 0) .any) (ds.getD j none) :=
  fun ds tm rows j => by unfold gvalL boolA; cases ds.getD j none <;> rfl
theorem r_boolA_b : ∀ (b : Bool) (d : Tmp), boolA (.bool b) (some d) = some (some b) :=
  fun _ _ => rfl
theorem r_boolA_u : ∀ (d : Tmp), boolA (.tup []) (some d) = some none :=
  fun _ => rfl
theorem r_guard_u : ∀ (want : Bool) (A C : Unit → Prop), guardK (some none) want A C = C () :=
  fun _ _ _ => rfl
theorem r_getDs : ∀ (d : Tmp), (some d).getD 0 = d :=
  fun _ => rfl
theorem r_D0 : ∀ (x : AV) (l : List AV), (x :: l).getD 0 .any = x :=
  fun _ _ => rfl
theorem r_DS : ∀ (x : AV) (l : List AV) (n : Nat), (x :: l).getD (n + 1) .any = l.getD n .any :=
  fun _ _ _ => rfl
theorem r_E0 : ∀ (x : Option Tmp) (l : List (Option Tmp)), (x :: l).getD 0 none = x :=
  fun _ _ => rfl
theorem r_ES : ∀ (x : Option Tmp) (l : List (Option Tmp)) (n : Nat), (x :: l).getD (n + 1) none = l.getD n none :=
  fun _ _ _ => rfl
theorem r_S0 : ∀ (x y : AV) (l : List AV), (x :: l).set 0 y = y :: l :=
  fun _ _ _ => rfl
theorem r_SS : ∀ (x y : AV) (l : List AV) (n : Nat), (x :: l).set (n + 1) y = x :: l.set n y :=
  fun _ _ _ _ => rfl
theorem r_put_some : ∀ (tm : List AV) (rows : List Row) (d : Tmp) (v : AV), St.put ⟨tm, rows⟩ (some d) v = ⟨tm.set d v, rows⟩ :=
  fun _ _ _ _ => rfl
theorem r_put_none : ∀ (s : St) (v : AV), St.put s none v = s :=
  fun _ _ => rfl
theorem r_eval_tmp : ∀ (GE : Nat → Option (List AV)) (tm : List AV) (rows : List Row) (t : Tmp), eval GE ⟨tm, rows⟩ (.tmp t) = tm.getD t .any :=
  fun _ _ _ _ => rfl
theorem r_eval_const : ∀ (GE : Nat → Option (List AV)) (st : St) (v : Value), eval GE st (.const v) = absV v :=
  fun _ _ _ => rfl
theorem r_eval_func : ∀ (GE : Nat → Option (List AV)) (st : St) (f : FuncId), eval GE st (.func f) = .lit (.func (.func f) #[] #[]) :=
  fun _ _ _ => rfl
theorem r_eval_global : ∀ (GE : Nat → Option (List AV)) (st : St) (g : Nat), eval GE st (.global g) = globA (GE g) :=
  fun GE st g => by unfold globA; cases hg : GE g <;> simp [eval, hg]
theorem r_glob_some : ∀ (cs : List AV), globA (some cs) = .lptr cs :=
  fun _ => rfl
theorem r_abs_int : ∀ (k : IntKind) (n : Int), absV (.int k n) = .int k n :=
  fun _ _ => rfl
theorem r_abs_bool : ∀ (b : Bool), absV (.bool b) = .bool b :=
  fun _ => rfl
theorem r_abs_nil : absV (.slice none 0 0) = .emp :=
  rfl
theorem r_abs_agg : ∀ (cs : Array Value), absV (.agg cs) = .agg (cs.toList.map absC) :=
  fun _ => rfl
theorem r_absC_int : ∀ (k : IntKind) (n : Int), absC (.int k n) = .int k n :=
  fun _ _ => rfl
theorem r_absC_bool : ∀ (b : Bool), absC (.bool b) = .bool b :=
  fun _ => rfl
theorem r_absC_nil : absC (.slice none 0 0) = .emp :=
  rfl
theorem r_vc_agg : ∀ (cs : Array Value), (Value.agg cs).cells = cs :=
  fun _ => rfl
theorem r_vc_int : ∀ (k : IntKind) (n : Int), (Value.int k n).cells = #[.int k n] :=
  fun _ _ => rfl
theorem r_vc_bool : ∀ (b : Bool), (Value.bool b).cells = #[.bool b] :=
  fun _ => rfl
theorem r_vc_nil : (Value.slice none 0 0).cells = #[.slice none 0 0] :=
  rfl
theorem r_zeros_eq : ∀ (d : TD) (sz by_ : Nat) (z : Value), zeros ⟨d, sz, by_, z⟩ = z.cells.toList.map absC :=
  fun _ _ _ _ => rfl
theorem r_map_nil : List.map absC [] = [] :=
  rfl
theorem r_map_cons : ∀ (x : Value) (l : List Value), List.map absC (x :: l) = absC x :: List.map absC l :=
  fun _ _ => rfl
theorem r_emap_nil : ∀ (GE : Nat → Option (List AV)) (st : St), List.map (eval GE st) [] = [] :=
  fun _ _ => rfl
theorem r_emap_cons : ∀ (GE : Nat → Option (List AV)) (st : St) (x : Operand) (l : List Operand), List.map (eval GE st) (x :: l) = eval GE st x :: List.map (eval GE st) l :=
  fun _ _ _ _ => rfl
theorem r_tv_some : ∀ (tv : TV) (f : TV → Prop), tvK (some tv) f = f tv :=
  fun _ _ => rfl
theorem r_sl_eq : ∀ (e : TypeId) (sz by_ : Nat) (z : Value) (f : TypeId → Prop), slK ⟨.slice e, sz, by_, z⟩ f = f e :=
  fun _ _ _ _ _ => rfl
theorem r_ar_eq : ∀ (n : Nat) (e : TypeId) (sz by_ : Nat) (z : Value) (f : Nat → TypeId → Prop), arK ⟨.array n e, sz, by_, z⟩ f = f n e :=
  fun _ _ _ _ _ _ => rfl
theorem r_su_eq : ∀ (fs : List (Nat × TypeId)) (sz by_ : Nat) (z : Value) (f : List (Nat × TypeId) → Prop), suK ⟨.struct fs, sz, by_, z⟩ f = f fs :=
  fun _ _ _ _ _ => rfl
theorem r_in_eq : ∀ (k : IntKind) (sz by_ : Nat) (z : Value) (f : IntKind → Prop), inK ⟨.int k, sz, by_, z⟩ f = f k :=
  fun _ _ _ _ _ => rfl
theorem r_x_call : ∀ (P : Program) (GE : Nat → Option (List AV)) (f : Operand) (args : Array Operand) (ats : Array TypeId) (dst : Option Tmp) (st : St) (K : St → Prop), XOp P GE (.call ⟨.value f, args, ats⟩) dst st K = callK P GE st.rows (eval GE st f) (args.toList.map (eval GE st)) (hid (fun r => K (st.put dst r)) ⟨⟩) :=
  q_x_call
theorem r_x_move : ∀ (P : Program) (GE : Nat → Option (List AV)) (x : Operand) (dst : Option Tmp) (st : St) (K : St → Prop), XOp P GE (.move x) dst st K = K (st.put dst (eval GE st x)) :=
  fun _ _ _ _ _ _ => rfl
theorem r_x_assign : ∀ (P : Program) (GE : Nat → Option (List AV)) (x : Operand) (dst : Option Tmp) (st : St) (K : St → Prop), XOp P GE (.assign x) dst st K = K (st.put dst (eval GE st x)) :=
  fun _ _ _ _ _ _ => rfl
theorem r_x_pick : ∀ (P : Program) (GE : Nat → Option (List AV)) (c x y : Operand) (dst : Option Tmp) (st : St) (K : St → Prop), XOp P GE (.pick c x y) dst st K = pickK (eval GE st c) (eval GE st x) (eval GE st y) (hid (fun v => K (st.put dst v)) ⟨⟩) :=
  q_x_pick
theorem r_pick_t : ∀ (x y : AV) (k : AV → Prop), pickK (.bool true) x y k = k x :=
  fun _ _ _ => rfl
theorem r_pick_f : ∀ (x y : AV) (k : AV → Prop), pickK (.bool false) x y k = k y :=
  fun _ _ _ => rfl
theorem r_pick_bb : ∀ (t p q : Bool) (k : AV → Prop), pickK (.bool t) (.bool p) (.bool q) k = k (.bool (if t = true then p else q)) :=
  fun t _ _ _ => by cases t <;> rfl
theorem r_x_alloc : ∀ (P : Program) (GE : Nat → Option (List AV)) (e : TypeId) (dst : Option Tmp) (st : St) (K : St → Prop), XOp P GE (.alloc e) dst st K = tvK (tvOf P e) (hid (fun tv => K (St.put { st with rows := st.rows ++ [⟨0, true, zeros tv⟩] } dst (.ptr st.rows.length 0 0))) ⟨⟩) :=
  q_x_alloc
theorem r_x_box : ∀ (P : Program) (GE : Nat → Option (List AV)) (e : TypeId) (x : Operand) (dst : Option Tmp) (st : St) (K : St → Prop), XOp P GE (.box e x) dst st K = cellsK (vcells (eval GE st x)) (hid (fun vs => K (St.put { st with rows := st.rows ++ [⟨0, true, vs⟩] } dst (.ptr st.rows.length 0 0))) ⟨⟩) :=
  q_x_box
theorem r_x_build : ∀ (P : Program) (GE : Nat → Option (List AV)) (t : TypeId) (parts : Array (Nat × Operand)) (dst : Option Tmp) (st : St) (K : St → Prop), XOp P GE (.build t parts) dst st K = tvK (tvOf P t) (hid (fun tv => suK tv (hid (fun fs => plK (placesA P fs) (hid (fun pl => cellsK (fillL pl (zeros tv) (parts.toList.map fun p => (p.1, eval GE st p.2))) (hid (fun cs => K (st.put dst (.agg cs))) ⟨⟩)) ⟨⟩)) ⟨⟩)) ⟨⟩) :=
  q_x_build
theorem r_pl_some : ∀ (l : List (Nat × Nat)) (f : List (Nat × Nat) → Prop), plK (some l) f = f l :=
  fun _ _ => rfl
theorem r_pl_nil : ∀ (P : Program), placesA P [] = some [] :=
  fun _ => rfl
theorem r_pl_cons : ∀ (P : Program) (off : Nat) (t : TypeId) (fs : List (Nat × TypeId)), placesA P ((off, t) :: fs) = plC off (tvOf P t) (placesA P fs) :=
  fun P off t fs => by unfold plC; simp only [placesA]; cases tvOf P t <;> cases placesA P fs <;> rfl
theorem r_plC_some : ∀ (off : Nat) (d : TD) (sz by_ : Nat) (z : Value) (l : List (Nat × Nat)), plC off (some ⟨d, sz, by_, z⟩) (some l) = some ((off, sz) :: l) :=
  fun _ _ _ _ _ _ => rfl
theorem r_pmap_nil : ∀ (GE : Nat → Option (List AV)) (st : St), List.map (fun p : Nat × Operand => (p.1, eval GE st p.2)) [] = [] :=
  fun _ _ => rfl
theorem r_pmap_cons : ∀ (GE : Nat → Option (List AV)) (st : St) (i : Nat) (x : Operand) (l : List (Nat × Operand)), List.map (fun p : Nat × Operand => (p.1, eval GE st p.2)) ((i, x) :: l) = (i, eval GE st x) :: List.map (fun p : Nat × Operand => (p.1, eval GE st p.2)) l :=
  fun _ _ _ _ _ => rfl
theorem r_fill_nil : ∀ (pl : List (Nat × Nat)) (cs : List AV), fillL pl cs [] = some cs :=
  fun _ _ => rfl
theorem r_fill_cons : ∀ (pl : List (Nat × Nat)) (cs : List AV) (i : Nat) (v : AV) (l : List (Nat × AV)), fillL pl cs ((i, v) :: l) = fillC (pl.getD i (0, 0)) (vcells v) cs (decide (i < pl.length)) (hid (fun cs' => fillL pl cs' l) ⟨⟩) :=
  q_fill_cons
theorem r_fillC_some : ∀ (off size : Nat) (vs cs : List AV) (k : List AV → Option (List AV)), fillC (off, size) (some vs) cs true k = if vs.length = size ∧ off + size ≤ cs.length then k (overwrite cs off vs) else none :=
  fun _ _ _ _ _ => rfl
theorem r_P0 : ∀ (x y : Nat × Nat) (l : List (Nat × Nat)), (x :: l).getD 0 y = x :=
  fun _ _ _ => rfl
theorem r_PS : ∀ (x y : Nat × Nat) (l : List (Nat × Nat)) (n : Nat), (x :: l).getD (n + 1) y = l.getD n y :=
  fun _ _ _ _ => rfl
theorem r_x_buildSlice : ∀ (P : Program) (GE : Nat → Option (List AV)) (t : TypeId) (n : Nat) (parts : Array (Nat × Operand)) (dst : Option Tmp) (st : St) (K : St → Prop), XOp P GE (.buildSlice t n parts) dst st K = tvK (tvOf P t) (hid (fun tv => slK tv (hid (fun e => tvK (tvOf P e) (hid (fun etv => (0 < etv.size ∧ n * etv.size ≤ 16777216 ∧ etv.z.cells.size = etv.size) ∧ cellsK (fillA (plS etv.size) ((List.replicate n (zeros etv)).flatten) (parts.toList.map fun p => (p.1, eval GE st p.2))) (hid (fun cs => K (st.put dst (if n = 0 then .emp else .lst n cs))) ⟨⟩)) ⟨⟩)) ⟨⟩)) ⟨⟩) :=
  q_x_buildSlice
theorem r_rep0 : ∀ (l : List AV), (List.replicate 0 l).flatten = [] :=
  fun _ => rfl
theorem r_rep1 : ∀ (l : List AV), (List.replicate 1 l).flatten = l :=
  fun _ => by simp
theorem r_rep2 : ∀ (l : List AV), (List.replicate 2 l).flatten = l ++ l :=
  fun _ => by simp [List.replicate]
theorem r_rep3 : ∀ (l : List AV), (List.replicate 3 l).flatten = l ++ (l ++ l) :=
  fun _ => by simp [List.replicate]
theorem r_rep5 : ∀ (l : List AV), (List.replicate 5 l).flatten = l ++ (l ++ (l ++ (l ++ l))) :=
  fun _ => by simp [List.replicate]
theorem r_fs_nil : ∀ (pl : Nat → Option (Nat × Nat)) (cs : List AV), fillA pl cs [] = some cs :=
  fun _ _ => rfl
theorem r_fs_cons : ∀ (sz : Nat) (cs : List AV) (i : Nat) (v : AV) (l : List (Nat × AV)), fillA (plS sz) cs ((i, v) :: l) = fillC (i * sz, sz) (vcells v) cs true (hid (fun cs' => fillA (plS sz) cs' l) ⟨⟩) :=
  q_fs_cons
theorem r_x_load : ∀ (P : Program) (GE : Nat → Option (List AV)) (t : TypeId) (p : Operand) (dst : Option Tmp) (st : St) (K : St → Prop), XOp P GE (.load t p) dst st K = tvK (tvOf P t) (hid (fun tv => loadK (cellsAt st.rows (eval GE st p)) tv (hid (fun v => K (st.put dst v)) ⟨⟩)) ⟨⟩) :=
  q_x_load
theorem r_load_some : ∀ (cs : List AV) (tv : TV) (k : AV → Prop), loadK (some cs) tv k = optK (readAs tv cs) k :=
  fun _ _ _ => rfl
theorem r_x_store : ∀ (P : Program) (GE : Nat → Option (List AV)) (t : TypeId) (p x : Operand) (dst : Option Tmp) (st : St) (K : St → Prop), XOp P GE (.store t p x) dst st K = tvK (tvOf P t) (hid (fun tv => cellsK (vcells (eval GE st x)) (hid (fun vs => storeK st.rows (eval GE st p) tv.size vs (hid (fun rows' => K (St.put { st with rows := rows' } dst .any)) ⟨⟩)) ⟨⟩)) ⟨⟩) :=
  q_x_store
theorem r_x_bin : ∀ (P : Program) (GE : Nat → Option (List AV)) (op : BinOp) (t u : TypeId) (x y : Operand) (dst : Option Tmp) (st : St) (K : St → Prop), XOp P GE (.binOp op t x y u) dst st K = binK (tvOf P t) op (eval GE st x) (eval GE st y) (hid (fun v => K (st.put dst v)) ⟨⟩) :=
  q_x_bin
theorem r_bin_some : ∀ (d : TD) (sz by_ : Nat) (z : Value) (op : BinOp) (x y : AV) (k : AV → Prop), binK (some ⟨d, sz, by_, z⟩) op x y k = optK (abin d op x y) k :=
  fun _ _ _ _ _ _ _ _ => rfl
theorem r_bin_int : ∀ (o : Option TV) (op : BinOp) (k k' : IntKind) (a b : Int) (f : AV → Prop), binK o op (.int k a) (.int k' b) f = optK (abin .other op (.int k a) (.int k' b)) f :=
  fun o op k k' a b f => by cases o <;> rfl
theorem r_x_un : ∀ (P : Program) (GE : Nat → Option (List AV)) (op : UnOp) (t : TypeId) (x : Operand) (dst : Option Tmp) (st : St) (K : St → Prop), XOp P GE (.unOp op t x) dst st K = optK (aun op (eval GE st x)) (hid (fun v => K (st.put dst v)) ⟨⟩) :=
  q_x_un
theorem r_x_conv : ∀ (P : Program) (GE : Nat → Option (List AV)) (s t : TypeId) (x : Operand) (dst : Option Tmp) (st : St) (K : St → Prop), XOp P GE (.convert s t x) dst st K = tvK (tvOf P s) (hid (fun _ => tvK (tvOf P t) (hid (fun tv => inK tv (hid (fun k => convK (eval GE st x) (hid (fun n => K (st.put dst (.int k (k.wrap n)))) ⟨⟩)) ⟨⟩)) ⟨⟩)) ⟨⟩) :=
  q_x_conv
theorem r_conv_int : ∀ (k : IntKind) (n : Int) (f : Int → Prop), convK (.int k n) f = f n :=
  fun _ _ _ => rfl
theorem r_x_make : ∀ (P : Program) (GE : Nat → Option (List AV)) (t : TypeId) (l c : Operand) (dst : Option Tmp) (st : St) (K : St → Prop), XOp P GE (.makeSlice t l c) dst st K = tvK (tvOf P t) (hid (fun tv => slK tv (hid (fun e => tvK (tvOf P e) (hid (fun etv => makeK (eval GE st l) (eval GE st c) etv (hid (fun n => K (St.put { st with rows := st.rows ++ [⟨0, true, (List.replicate n (zeros etv)).flatten⟩] } dst (.own st.rows.length 0 0 n etv.size))) ⟨⟩)) ⟨⟩)) ⟨⟩)) ⟨⟩) :=
  q_x_make
theorem r_make_ii : ∀ (k k' : IntKind) (n m : Int) (d : TD) (sz by_ : Nat) (z : Value) (f : Nat → Prop), makeK (.int k n) (.int k' m) ⟨d, sz, by_, z⟩ f = (0 < sz ∧ n = m ∧ 0 ≤ n ∧ (by_ : Int) * n ≤ 281474976710656 ∧ n ≤ 9223372036854775807 ∧ z.cells.size = sz ∧ f n.toNat) :=
  fun _ _ _ _ _ _ _ _ _ => rfl
theorem r_x_slice : ∀ (P : Program) (GE : Nat → Option (List AV)) (t : TypeId) (x : Operand) (lo hi mx : Option Operand) (dst : Option Tmp) (st : St) (K : St → Prop), XOp P GE (.slice t x lo hi mx) dst st K = tvK (tvOf P t) (hid (fun tv => slK tv (hid (fun e => tvK (tvOf P e) (hid (fun etv => sliceK (eval GE st x) (boundV GE st lo) (hi.map (eval GE st)) (mx.map (eval GE st)) etv.size (hid (fun v => K (st.put dst v)) ⟨⟩)) ⟨⟩)) ⟨⟩)) ⟨⟩) :=
  q_x_slice
theorem r_bV_none : ∀ (GE : Nat → Option (List AV)) (st : St), boundV GE st none = .int .i64 0 :=
  fun _ _ => rfl
theorem r_bV_some : ∀ (GE : Nat → Option (List AV)) (st : St) (q : Operand), boundV GE st (some q) = eval GE st q :=
  fun _ _ _ => rfl
theorem r_om_none : ∀ (GE : Nat → Option (List AV)) (st : St), Option.map (eval GE st) none = none :=
  fun _ _ => rfl
theorem r_om_some : ∀ (GE : Nat → Option (List AV)) (st : St) (q : Operand), Option.map (eval GE st) (some q) = some (eval GE st q) :=
  fun _ _ _ => rfl
theorem r_x_fieldAddr : ∀ (P : Program) (GE : Nat → Option (List AV)) (s : TypeId) (p : Operand) (f : Nat) (dst : Option Tmp) (st : St) (K : St → Prop), XOp P GE (.fieldAddr s p f) dst st K = tvK (tvOf P s) (hid (fun tv => suK tv (hid (fun fs => placeK (fieldPlaceA P fs f) (hid (fun off size => size ≠ 0 ∧ fieldK st.rows (eval GE st p) off (hid (fun v => K (st.put dst v)) ⟨⟩)) ⟨⟩)) ⟨⟩)) ⟨⟩) :=
  q_x_fieldAddr
theorem r_place_some : ∀ (off size : Nat) (f : Nat → Nat → Prop), placeK (some (off, size)) f = f off size :=
  fun _ _ _ => rfl
theorem r_fp_0 : ∀ (P : Program) (off : Nat) (t : TypeId) (fs : List (Nat × TypeId)), fieldPlaceA P ((off, t) :: fs) 0 = fpC off (tvOf P t) :=
  fun P off t fs => by unfold fpC fieldPlaceA; simp only [List.getElem?_cons_zero]; cases tvOf P t <;> rfl
theorem r_fp_s : ∀ (P : Program) (x : Nat × TypeId) (fs : List (Nat × TypeId)) (f : Nat), fieldPlaceA P (x :: fs) (f + 1) = fieldPlaceA P fs f :=
  fun _ _ _ _ => rfl
theorem r_fpC_some : ∀ (off : Nat) (d : TD) (sz by_ : Nat) (z : Value), fpC off (some ⟨d, sz, by_, z⟩) = some (off, sz) :=
  fun _ _ _ _ _ => rfl
theorem r_x_field : ∀ (P : Program) (GE : Nat → Option (List AV)) (s : TypeId) (x : Operand) (f : Nat) (dst : Option Tmp) (st : St) (K : St → Prop), XOp P GE (.field s x f) dst st K = tvK (tvOf P s) (hid (fun tv => suK tv (hid (fun fs => fldK (fs[f]?) (hid (fun off t => tvK (tvOf P t) (hid (fun ftv => aggK (eval GE st x) (hid (fun cs => optK (readAs ftv (cs.drop off)) (hid (fun v => K (st.put dst v)) ⟨⟩)) ⟨⟩)) ⟨⟩)) ⟨⟩)) ⟨⟩)) ⟨⟩) :=
  q_x_field
theorem r_fld_some : ∀ (off : Nat) (t : TypeId) (f : Nat → TypeId → Prop), fldK (some (off, t)) f = f off t :=
  fun _ _ _ => rfl
theorem r_f0 : ∀ (x : Nat × TypeId) (l : List (Nat × TypeId)), (x :: l)[0]? = some x :=
  fun _ _ => rfl
theorem r_fS : ∀ (x : Nat × TypeId) (l : List (Nat × TypeId)) (n : Nat), (x :: l)[n + 1]? = l[n]? :=
  fun _ _ _ => rfl
theorem r_x_index : ∀ (P : Program) (GE : Nat → Option (List AV)) (t : TypeId) (x i : Operand) (dst : Option Tmp) (st : St) (K : St → Prop), XOp P GE (.index t x i) dst st K = tvK (tvOf P t) (hid (fun tv => arK tv (hid (fun n e => tvK (tvOf P e) (hid (fun etv => natK (eval GE st i) (hid (fun j => aggK (eval GE st x) (hid (fun cs => j < n ∧ optK (readAs etv (cs.drop (j * etv.size))) (hid (fun v => K (st.put dst v)) ⟨⟩)) ⟨⟩)) ⟨⟩)) ⟨⟩)) ⟨⟩)) ⟨⟩) :=
  q_x_index
theorem r_x_indexAddr : ∀ (P : Program) (GE : Nat → Option (List AV)) (t : TypeId) (x i : Operand) (dst : Option Tmp) (st : St) (K : St → Prop), XOp P GE (.indexAddr t x i) dst st K = tvK (tvOf P t) (hid (fun tv => natK (eval GE st i) (hid (fun j => elK tv (hid (fun e => tvK (tvOf P e) (hid (fun etv => indexK st.rows (eval GE st x) tv etv.size j (hid (fun v => K (st.put dst v)) ⟨⟩)) ⟨⟩)) ⟨⟩)) ⟨⟩)) ⟨⟩) :=
  q_x_indexAddr
theorem r_el_sl : ∀ (e : TypeId) (sz by_ : Nat) (z : Value) (f : TypeId → Prop), elK ⟨.slice e, sz, by_, z⟩ f = f e :=
  fun _ _ _ _ _ => rfl
theorem r_el_ar : ∀ (n : Nat) (e : TypeId) (sz by_ : Nat) (z : Value) (f : TypeId → Prop), elK ⟨.array n e, sz, by_, z⟩ f = f e :=
  fun _ _ _ _ _ _ => rfl
theorem r_ix_lst : ∀ (rows : List Row) (n : Nat) (cs : List AV) (e sz by_ : Nat) (z : Value) (es j : Nat) (k : AV → Prop), indexK rows (.lst n cs) ⟨.slice e, sz, by_, z⟩ es j k = ((j < n ∧ j * es < cs.length) ∧ k (.lptr (cs.drop (j * es)))) :=
  fun _ _ _ _ _ _ _ _ _ _ => rfl
theorem r_ix_arr : ∀ (rows : List Row) (cs : List AV) (n e sz by_ : Nat) (z : Value) (es j : Nat) (k : AV → Prop), indexK rows (.lptr cs) ⟨.array n e, sz, by_, z⟩ es j k = (j < n ∧ k (.lptr (cs.drop (j * es)))) :=
  fun _ _ _ _ _ _ _ _ _ _ => rfl
theorem r_ix_own : ∀ (rows : List Row) (r ver off n s2 : Nat) (e sz by_ : Nat) (z : Value) (es j : Nat) (k : AV → Prop), indexK rows (.own r ver off n s2) ⟨.slice e, sz, by_, z⟩ es j k = rowIs rows r ver (hid (fun _ => (j < n ∧ s2 = es) ∧ k (.ptr r ver (off + j * es))) ⟨⟩) :=
  q_ix_own
theorem r_x_extract : ∀ (P : Program) (GE : Nat → Option (List AV)) (x : Operand) (i : Nat) (dst : Option Tmp) (st : St) (K : St → Prop), XOp P GE (.extract x i) dst st K = tupK (eval GE st x) i (hid (fun v => K (st.put dst v)) ⟨⟩) :=
  q_x_extract
theorem r_x_len : ∀ (P : Program) (GE : Nat → Option (List AV)) (x : Operand) (t : TypeId) (dst : Option Tmp) (st : St) (K : St → Prop), XOp P GE (.call ⟨.builtin .len, #[x], #[t]⟩) dst st K = tvK (tvOf P t) (hid (fun tv => slK tv (hid (fun _ => lenK (lenA (eval GE st x)) (hid (fun n => K (st.put dst (.int .i64 n))) ⟨⟩)) ⟨⟩)) ⟨⟩) :=
  q_x_len
theorem r_len_some : ∀ (n : Nat) (k : Nat → Prop), lenK (some n) k = k n :=
  fun _ _ => rfl
theorem r_lenA_lst : ∀ (n : Nat) (cs : List AV), lenA (.lst n cs) = some n :=
  fun _ _ => rfl
theorem r_lenA_emp : lenA .emp = some 0 :=
  rfl
theorem r_lenA_own : ∀ (r v o n s : Nat), lenA (.own r v o n s) = some n :=
  fun _ _ _ _ _ => rfl
theorem r_x_max : ∀ (P : Program) (GE : Nat → Option (List AV)) (x y : Operand) (ats : Array TypeId) (dst : Option Tmp) (st : St) (K : St → Prop), XOp P GE (.call ⟨.builtin .max, #[x, y], ats⟩) dst st K = optK (foldMM (fun x y => max x y) (eval GE st x) [eval GE st y]) (hid (fun v => K (st.put dst v)) ⟨⟩) :=
  q_x_max
theorem r_x_min : ∀ (P : Program) (GE : Nat → Option (List AV)) (x y : Operand) (ats : Array TypeId) (dst : Option Tmp) (st : St) (K : St → Prop), XOp P GE (.call ⟨.builtin .min, #[x, y], ats⟩) dst st K = optK (foldMM (fun x y => min x y) (eval GE st x) [eval GE st y]) (hid (fun v => K (st.put dst v)) ⟨⟩) :=
  q_x_min
theorem r_x_max3 : ∀ (P : Program) (GE : Nat → Option (List AV)) (x y u : Operand) (ats : Array TypeId) (dst : Option Tmp) (st : St) (K : St → Prop), XOp P GE (.call ⟨.builtin .max, #[x, y, u], ats⟩) dst st K = optK (foldMM (fun x y => max x y) (eval GE st x) [eval GE st y, eval GE st u]) (hid (fun v => K (st.put dst v)) ⟨⟩) :=
  q_x_max3
theorem r_mm1 : ∀ (f : Int → Int → Int) (k : IntKind) (x : Int), foldMM f (.int k x) [] = some (.int k x) :=
  fun _ _ _ => rfl
theorem r_mm2 : ∀ (f : Int → Int → Int) (k k' : IntKind) (x y : Int) (l : List AV), foldMM f (.int k x) (.int k' y :: l) = foldMM f (.int k (f x y)) l :=
  fun _ _ _ _ _ _ => rfl
theorem r_x_append : ∀ (P : Program) (GE : Nat → Option (List AV)) (s x : Operand) (t : TypeId) (dst : Option Tmp) (st : St) (K : St → Prop), XOp P GE (.call ⟨.builtin .append, #[s, x], #[t, t]⟩) dst st K = tvK (tvOf P t) (hid (fun tv => slK tv (hid (fun e => tvK (tvOf P e) (hid (fun etv => etv.z.cells.size = etv.size ∧ appK st.rows (eval GE st s) (elems st.rows (eval GE st x)) etv (hid (fun rows' v => K (St.put { st with rows := rows' } dst v)) ⟨⟩)) ⟨⟩)) ⟨⟩)) ⟨⟩) :=
  q_x_append
theorem r_app_emp : ∀ (rows : List Row) (m : Nat) (cs : List AV) (tv : TV) (k : List Row → AV → Prop), appK rows .emp (some (m, cs)) tv k = ((cs.length = m * tv.size ∧ 0 < tv.size ∧ cs.all cell1 = true) ∧ if m = 0 then k rows .emp else ((m * tv.bytes ≤ 140737488355328 ∧ m ≤ 9223372036854775807) ∧ k (rows ++ [⟨0, true, cs⟩]) (.own rows.length 0 0 m tv.size))) :=
  fun _ _ _ _ _ => rfl
theorem r_app_own : ∀ (rows : List Row) (r ver n sz m : Nat) (cs : List AV) (tv : TV) (k : List Row → AV → Prop), appK rows (.own r ver 0 n sz) (some (m, cs)) tv k = ((cs.length = m * tv.size ∧ 0 < tv.size ∧ cs.all cell1 = true) ∧ rowIs rows r ver (hid (fun row => (row.hot = true ∧ sz = tv.size ∧ row.cells.length = n * sz ∧ (n + m) * tv.bytes ≤ 140737488355328 ∧ n + m ≤ 9223372036854775807) ∧ k (rows.set r ⟨ver + 1, true, row.cells ++ cs⟩) (.own r (ver + 1) 0 (n + m) sz)) ⟨⟩)) :=
  q_app_own
theorem r_el_lst : ∀ (rows : List Row) (n : Nat) (cs : List AV), elems rows (.lst n cs) = some (n, cs) :=
  fun _ _ _ => rfl
theorem r_el_emp : ∀ (rows : List Row), elems rows .emp = some (0, []) :=
  fun _ => rfl
theorem r_opt_some : ∀ (v : AV) (k : AV → Prop), optK (some v) k = k v :=
  fun _ _ => rfl
theorem r_opt_ite : ∀ (c : Prop) [Decidable c] (v : AV) (k : AV → Prop), optK (if c then some v else none) k = (c ∧ k v) :=
  fun c _ v k => by by_cases h : c <;> simp [h, optK]
theorem r_ce_some : ∀ (v : List AV) (k : List AV → Prop), cellsK (some v) k = k v :=
  fun _ _ => rfl
theorem r_ce_ite : ∀ (c : Prop) [Decidable c] (v : List AV) (k : List AV → Prop), cellsK (if c then some v else none) k = (c ∧ k v) :=
  fun c _ v k => by by_cases h : c <;> simp [h, cellsK]
theorem r_v_agg : ∀ (cs : List AV), vcells (.agg cs) = some cs :=
  fun _ => rfl
theorem r_v_int : ∀ (i : IntKind) (n : Int), vcells (.int i n) = some [.int i n] :=
  fun _ _ => rfl
theorem r_v_bool : ∀ (b : Bool), vcells (.bool b) = some [.bool b] :=
  fun _ => rfl
theorem r_v_lst : ∀ (n : Nat) (cs : List AV), vcells (.lst n cs) = some [.lst n cs] :=
  fun _ _ => rfl
theorem r_v_lit : ∀ (v : Value), vcells (.lit v) = some [.lit v] :=
  fun _ => rfl
theorem r_v_emp : vcells .emp = some [.emp] :=
  rfl
theorem r_v_own : ∀ (r v o n s : Nat), vcells (.own r v o n s) = some [.own r v o n s] :=
  fun _ _ _ _ _ => rfl
theorem r_agg_agg : ∀ (cs : List AV) (k : List AV → Prop), aggK (.agg cs) k = k cs :=
  fun _ _ => rfl
theorem r_tup_0 : ∀ (v : AV) (vs : List AV) (k : AV → Prop), tupK (.tup (v :: vs)) 0 k = k v :=
  fun _ _ _ => rfl
theorem r_tup_s : ∀ (v : AV) (vs : List AV) (i : Nat) (k : AV → Prop), tupK (.tup (v :: vs)) (i + 1) k = tupK (.tup vs) i k :=
  fun _ _ _ _ => by simp [tupK]
theorem r_nat_int : ∀ (k : IntKind) (n : Int) (f : Nat → Prop), natK (.int k n) f = (0 ≤ n ∧ f n.toNat) :=
  fun k n f => by unfold natK asNat; by_cases h : 0 ≤ n <;> simp [h]
theorem r_at_lptr : ∀ (rows : List Row) (cs : List AV), cellsAt rows (.lptr cs) = some cs :=
  fun _ _ => rfl
theorem r_at_ptr : ∀ (rows : List Row) (r ver off : Nat) , cellsAt rows (.ptr r ver off) = rowAt rows r ver off :=
  fun rows r ver off => by unfold rowAt cellsAt; simp only; cases rows[r]? <;> rfl
theorem r_rowAt_0 : ∀ (ver : Nat) (hot : Bool) (cs : List AV) (rows : List Row) (off : Nat), rowAt (⟨ver, hot, cs⟩ :: rows) 0 ver off = some (cs.drop off) :=
  fun _ _ _ _ _ => by simp [rowAt]
theorem r_rowAt_s : ∀ (x : Row) (rows : List Row) (r ver off : Nat), rowAt (x :: rows) (r + 1) ver off = rowAt rows r ver off :=
  fun _ _ _ _ _ => by simp [rowAt]
theorem r_field_lptr : ∀ (rows : List Row) (cs : List AV) (off : Nat) (k : AV → Prop), fieldK rows (.lptr cs) off k = k (.lptr (cs.drop off)) :=
  fun _ _ _ _ => rfl
theorem r_field_ptr : ∀ (rows : List Row) (r ver o off : Nat) (k : AV → Prop), fieldK rows (.ptr r ver o) off k = rowIs rows r ver (hid (fun _ => k (.ptr r ver (o + off))) ⟨⟩) :=
  q_field_ptr
theorem r_rowIs_0 : ∀ (ver : Nat) (hot : Bool) (cs : List AV) (rows : List Row) (k : Row → Prop), rowIs (⟨ver, hot, cs⟩ :: rows) 0 ver k = k ⟨ver, hot, cs⟩ :=
  fun _ _ _ _ _ => by simp [rowIs]
theorem r_rowIs_s : ∀ (x : Row) (rows : List Row) (r ver : Nat) (k : Row → Prop), rowIs (x :: rows) (r + 1) ver k = rowIs rows r ver k :=
  fun _ _ _ _ _ => by simp [rowIs]
theorem r_store_ptr : ∀ (size : Nat) (rows : List Row) (r ver off : Nat) (vs : List AV) (k : List Row → Prop), storeK rows (.ptr r ver off) size vs k = rowIs rows r ver (hid (fun row => row.hot = true ∧ vs.length = size ∧ off + vs.length ≤ row.cells.length ∧ vs.all cell1 = true ∧ k (rows.set r ⟨ver, true, overwrite row.cells off vs⟩)) ⟨⟩) :=
  q_store_ptr
theorem r_set0 : ∀ (x y : Row) (l : List Row), (x :: l).set 0 y = y :: l :=
  fun _ _ _ => rfl
theorem r_setS : ∀ (x y : Row) (l : List Row) (n : Nat), (x :: l).set (n + 1) y = x :: l.set n y :=
  fun _ _ _ _ => rfl
theorem r_rapp0 : ∀ (x : Row), ([] : List Row) ++ [x] = [x] :=
  fun _ => rfl
theorem r_rapp1 : ∀ (x y : Row) (l : List Row), (x :: l) ++ [y] = x :: (l ++ [y]) :=
  fun _ _ _ => rfl
theorem r_rlen0 : ([] : List Row).length = 0 :=
  rfl
theorem r_rlen1 : ∀ (x : Row) (l : List Row), (x :: l).length = l.length + 1 :=
  fun _ _ => rfl
theorem r_read_agg : ∀ (fs : List (Nat × TypeId)) (sz by_ : Nat) (z : Value) (cs : List AV), readAs ⟨.struct fs, sz, by_, z⟩ cs = if sz ≤ cs.length then some (.agg (cs.take sz)) else none :=
  fun _ _ _ _ _ => rfl
theorem r_read_agg2 : ∀ (n e sz by_ : Nat) (z : Value) (cs : List AV), readAs ⟨.array n e, sz, by_, z⟩ cs = if sz ≤ cs.length then some (.agg (cs.take sz)) else none :=
  fun _ _ _ _ _ _ => rfl
theorem r_read_int : ∀ (k : IntKind) (sz by_ : Nat) (z : Value) (cs : List AV), readAs ⟨.int k, sz, by_, z⟩ cs = cs[0]? :=
  fun _ _ _ _ _ => rfl
theorem r_read_bool : ∀ (sz by_ : Nat) (z : Value) (cs : List AV), readAs ⟨.bool, sz, by_, z⟩ cs = cs[0]? :=
  fun _ _ _ _ => rfl
theorem r_read_slice : ∀ (e : TypeId) (sz by_ : Nat) (z : Value) (cs : List AV), readAs ⟨.slice e, sz, by_, z⟩ cs = cs[0]? :=
  fun _ _ _ _ _ => rfl
theorem r_read_other : ∀ (sz by_ : Nat) (z : Value) (cs : List AV), readAs ⟨.other, sz, by_, z⟩ cs = cs[0]? :=
  fun _ _ _ _ => rfl
theorem r_g0 : ∀ (x : AV) (l : List AV), (x :: l)[0]? = some x :=
  fun _ _ => rfl
theorem r_dr0 : ∀ (l : List AV), l.drop 0 = l :=
  fun _ => rfl
theorem r_drS : ∀ (x : AV) (l : List AV) (n : Nat), (x :: l).drop (n + 1) = l.drop n :=
  fun _ _ _ => rfl
theorem r_tk0 : ∀ (l : List AV), l.take 0 = [] :=
  fun _ => by simp
theorem r_tkS : ∀ (x : AV) (l : List AV) (n : Nat), (x :: l).take (n + 1) = x :: l.take n :=
  fun _ _ _ => rfl
theorem r_ln0 : ([] : List AV).length = 0 :=
  rfl
theorem r_ln1 : ∀ (x : AV) (l : List AV), (x :: l).length = l.length + 1 :=
  fun _ _ => rfl
theorem r_ap0 : ∀ (l : List AV), [] ++ l = l :=
  fun _ => rfl
theorem r_ap1 : ∀ (x : AV) (l l' : List AV), (x :: l) ++ l' = x :: (l ++ l') :=
  fun _ _ _ => rfl
theorem r_over1 : ∀ (cells : List AV) (off : Nat) (v : AV), overwrite cells off [v] = cells.set off v :=
  fun _ _ _ => rfl
theorem r_over2 : ∀ (cells : List AV) (off : Nat) (u v : AV) (l : List AV), overwrite cells off (u :: v :: l) = cells.take off ++ (u :: v :: l) ++ cells.drop (off + (u :: v :: l).length) :=
  fun _ _ _ _ _ => rfl
theorem r_all0 : ([] : List AV).all cell1 = true :=
  rfl
theorem r_all1 : ∀ (x : AV) (l : List AV), (x :: l).all cell1 = (cell1 x && l.all cell1) :=
  fun _ _ => rfl
theorem r_c1_int : ∀ (k : IntKind) (n : Int), cell1 (.int k n) = true :=
  fun _ _ => rfl
theorem r_c1_bool : ∀ (b : Bool), cell1 (.bool b) = true :=
  fun _ => rfl
theorem r_c1_lst : ∀ (n : Nat) (cs : List AV), cell1 (.lst n cs) = true :=
  fun _ _ => rfl
theorem r_c1_emp : cell1 .emp = true :=
  rfl
theorem r_c1_lit : ∀ (v : Value), cell1 (.lit v) = true :=
  fun _ => rfl
theorem r_c1_own : ∀ (r v o n s : Nat), cell1 (.own r v o n s) = true :=
  fun _ _ _ _ _ => rfl
theorem r_un_not : ∀ (b : Bool), aun .not (.bool b) = some (.bool !b) :=
  fun _ => rfl
theorem r_un_neg : ∀ (k : IntKind) (n : Int), aun .neg (.int k n) = some (.int k (k.wrap (0 - n))) :=
  fun _ _ => rfl
theorem r_un_xor : ∀ (k : IntKind) (n : Int), aun .xor (.int k n) = some (.int k (bits .xor k (if k.signed then -1 else k.max) n)) :=
  fun _ _ => rfl
theorem r_b_add : ∀ (d : TD) (k : IntKind) (a b : Int), abin d .add (.int k a) (.int k b) = some (.int k (k.wrap (a + b))) :=
  fun _ _ _ _ => by simp [abin]
theorem r_b_sub : ∀ (d : TD) (k : IntKind) (a b : Int), abin d .sub (.int k a) (.int k b) = some (.int k (k.wrap (a - b))) :=
  fun _ _ _ _ => by simp [abin]
theorem r_b_mul : ∀ (d : TD) (k : IntKind) (a b : Int), abin d .mul (.int k a) (.int k b) = some (.int k (k.wrap (a * b))) :=
  fun _ _ _ _ => by simp [abin]
theorem r_b_and : ∀ (d : TD) (k : IntKind) (a b : Int), abin d .and (.int k a) (.int k b) = some (.int k (bits .and k a b)) :=
  fun _ _ _ _ => by simp [abin]
theorem r_b_or : ∀ (d : TD) (k : IntKind) (a b : Int), abin d .or (.int k a) (.int k b) = some (.int k (bits .or k a b)) :=
  fun _ _ _ _ => by simp [abin]
theorem r_b_xor : ∀ (d : TD) (k : IntKind) (a b : Int), abin d .xor (.int k a) (.int k b) = some (.int k (bits .xor k a b)) :=
  fun _ _ _ _ => by simp [abin]
theorem r_b_andNot : ∀ (d : TD) (k : IntKind) (a b : Int), abin d .andNot (.int k a) (.int k b) = some (.int k (bits .andNot k a b)) :=
  fun _ _ _ _ => by simp [abin]
theorem r_b_eql : ∀ (d : TD) (k : IntKind) (a b : Int), abin d .eql (.int k a) (.int k b) = some (.bool (a == b)) :=
  fun _ _ _ _ => by simp [abin]
theorem r_b_neq : ∀ (d : TD) (k : IntKind) (a b : Int), abin d .neq (.int k a) (.int k b) = some (.bool (a != b)) :=
  fun _ _ _ _ => by simp [abin]
theorem r_b_lss : ∀ (d : TD) (k : IntKind) (a b : Int), abin d .lss (.int k a) (.int k b) = some (.bool (decide (a < b))) :=
  fun _ _ _ _ => by simp [abin]
theorem r_b_leq : ∀ (d : TD) (k : IntKind) (a b : Int), abin d .leq (.int k a) (.int k b) = some (.bool (decide (a ≤ b))) :=
  fun _ _ _ _ => by simp [abin]
theorem r_b_gtr : ∀ (d : TD) (k : IntKind) (a b : Int), abin d .gtr (.int k a) (.int k b) = some (.bool (decide (b < a))) :=
  fun _ _ _ _ => by simp [abin]
theorem r_b_geq : ∀ (d : TD) (k : IntKind) (a b : Int), abin d .geq (.int k a) (.int k b) = some (.bool (decide (b ≤ a))) :=
  fun _ _ _ _ => by simp [abin]
theorem r_b_quo : ∀ (d : TD) (k : IntKind) (a b : Int), abin d .quo (.int k a) (.int k b) = if b ≠ 0 then some (.int k (k.wrap (a.tdiv b))) else none :=
  fun _ _ _ _ => by simp [abin]
theorem r_b_rem : ∀ (d : TD) (k : IntKind) (a b : Int), abin d .rem (.int k a) (.int k b) = if b ≠ 0 then some (.int k (a.tmod b)) else none :=
  fun _ _ _ _ => by simp [abin]
theorem r_b_shl : ∀ (d : TD) (k k' : IntKind) (a b : Int), abin d .shl (.int k a) (.int k' b) = if 0 ≤ b then some (.int k (k.wrap (a * 2 ^ (min b.toNat k.bits)))) else none :=
  fun _ _ _ _ _ => rfl
theorem r_b_shr : ∀ (d : TD) (k k' : IntKind) (a b : Int), abin d .shr (.int k a) (.int k' b) = if 0 ≤ b then some (.int k (a.fdiv (2 ^ (min b.toNat k.bits)))) else none :=
  fun _ _ _ _ _ => rfl
theorem r_b_beq : ∀ (a b : Bool), abin .bool .eql (.bool a) (.bool b) = some (.bool (a == b)) :=
  fun _ _ => rfl
theorem r_b_bne : ∀ (a b : Bool), abin .bool .neq (.bool a) (.bool b) = some (.bool (a != b)) :=
  fun _ _ => rfl
theorem r_hid2 : ∀ (α : Type) (f : α → Prop) (d : Dum f) (x : α), hid f d x = f x :=
  fun _ _ _ _ => rfl
theorem r_hid3 : ∀ (α : Type) (f : α → Option (List AV)) (d : Dum f) (x : α), hid f d x = f x :=
  fun _ _ _ _ => rfl
theorem r_hid4 : ∀ (α β : Type) (f : α → β → Prop) (d : Dum f) (x : α) (y : β), hid f d x y = f x y :=
  fun _ _ _ _ _ _ => rfl
/-- All the rules. -/
theorem ax : (∀ (P : Program) (GE : Nat → Option (List AV)) (ds : List (Option Tmp)) (st : St) (K : St → Prop), XOps P GE ds [] st K = K st) ∧
    (∀ (P : Program) (GE : Nat → Option (List AV)) (ds : List (Option Tmp)) (d : Option Tmp) (op : Op) (t : TypeId) (p : String) (af : Array Edge) (g : Option (Nat × Bool)) (os : List Oper) (st : St) (K : St → Prop), XOps P GE ds (⟨d, op, t, p, af, g⟩ :: os) st K = XGOp P GE ds op d g st (hid (fun s => XOps P GE (ds ++ [d]) os s K) ⟨⟩)) ∧
    (∀ (x : Option Tmp), [] ++ [x] = [x]) ∧
    (∀ (x y : Option Tmp) (l : List (Option Tmp)), (x :: l) ++ [y] = x :: (l ++ [y])) ∧
    (∀ (P : Program) (GE : Nat → Option (List AV)) (ds : List (Option Tmp)) (op : Op) (dst : Option Tmp) (st : St) (K : St → Prop), XGOp P GE ds op dst none st K = XOp P GE op dst st K) ∧
    (∀ (P : Program) (GE : Nat → Option (List AV)) (ds : List (Option Tmp)) (op : Op) (j : Nat) (want : Bool) (dst : Option Tmp) (st : St) (K : St → Prop), XGOp P GE ds op dst (some (j, want)) st K = guardK (gvalL ds st j) want (hid (fun _ => XOp P GE op dst st K) ⟨⟩) (hid (fun _ => K (st.put dst (.tup []))) ⟨⟩)) ∧
    (∀ (A C : Unit → Prop), guardK (some (some true)) true A C = A ()) ∧
    (∀ (A C : Unit → Prop), guardK (some (some false)) false A C = A ()) ∧
    (∀ (A C : Unit → Prop), guardK (some (some true)) false A C = C ()) ∧
    (∀ (A C : Unit → Prop), guardK (some (some false)) true A C = C ()) ∧
    (∀ (ds : List (Option Tmp)) (tm : List AV) (rows : List Row) (j : Nat), gvalL ds ⟨tm, rows⟩ j = boolA (tm.getD ((ds.getD j none).getD 0) .any) (ds.getD j none)) ∧
    (∀ (b : Bool) (d : Tmp), boolA (.bool b) (some d) = some (some b)) ∧
    (∀ (d : Tmp), boolA (.tup []) (some d) = some none) ∧
    (∀ (want : Bool) (A C : Unit → Prop), guardK (some none) want A C = C ()) ∧
    (∀ (d : Tmp), (some d).getD 0 = d) ∧
    (∀ (x : AV) (l : List AV), (x :: l).getD 0 .any = x) ∧
    (∀ (x : AV) (l : List AV) (n : Nat), (x :: l).getD (n + 1) .any = l.getD n .any) ∧
    (∀ (x : Option Tmp) (l : List (Option Tmp)), (x :: l).getD 0 none = x) ∧
    (∀ (x : Option Tmp) (l : List (Option Tmp)) (n : Nat), (x :: l).getD (n + 1) none = l.getD n none) ∧
    (∀ (x y : AV) (l : List AV), (x :: l).set 0 y = y :: l) ∧
    (∀ (x y : AV) (l : List AV) (n : Nat), (x :: l).set (n + 1) y = x :: l.set n y) ∧
    (∀ (tm : List AV) (rows : List Row) (d : Tmp) (v : AV), St.put ⟨tm, rows⟩ (some d) v = ⟨tm.set d v, rows⟩) ∧
    (∀ (s : St) (v : AV), St.put s none v = s) ∧
    (∀ (GE : Nat → Option (List AV)) (tm : List AV) (rows : List Row) (t : Tmp), eval GE ⟨tm, rows⟩ (.tmp t) = tm.getD t .any) ∧
    (∀ (GE : Nat → Option (List AV)) (st : St) (v : Value), eval GE st (.const v) = absV v) ∧
    (∀ (GE : Nat → Option (List AV)) (st : St) (f : FuncId), eval GE st (.func f) = .lit (.func (.func f) #[] #[])) ∧
    (∀ (GE : Nat → Option (List AV)) (st : St) (g : Nat), eval GE st (.global g) = globA (GE g)) ∧
    (∀ (cs : List AV), globA (some cs) = .lptr cs) ∧
    (∀ (k : IntKind) (n : Int), absV (.int k n) = .int k n) ∧
    (∀ (b : Bool), absV (.bool b) = .bool b) ∧
    (absV (.slice none 0 0) = .emp) ∧
    (∀ (cs : Array Value), absV (.agg cs) = .agg (cs.toList.map absC)) ∧
    (∀ (k : IntKind) (n : Int), absC (.int k n) = .int k n) ∧
    (∀ (b : Bool), absC (.bool b) = .bool b) ∧
    (absC (.slice none 0 0) = .emp) ∧
    (∀ (cs : Array Value), (Value.agg cs).cells = cs) ∧
    (∀ (k : IntKind) (n : Int), (Value.int k n).cells = #[.int k n]) ∧
    (∀ (b : Bool), (Value.bool b).cells = #[.bool b]) ∧
    ((Value.slice none 0 0).cells = #[.slice none 0 0]) ∧
    (∀ (d : TD) (sz by_ : Nat) (z : Value), zeros ⟨d, sz, by_, z⟩ = z.cells.toList.map absC) ∧
    (List.map absC [] = []) ∧
    (∀ (x : Value) (l : List Value), List.map absC (x :: l) = absC x :: List.map absC l) ∧
    (∀ (GE : Nat → Option (List AV)) (st : St), List.map (eval GE st) [] = []) ∧
    (∀ (GE : Nat → Option (List AV)) (st : St) (x : Operand) (l : List Operand), List.map (eval GE st) (x :: l) = eval GE st x :: List.map (eval GE st) l) ∧
    (∀ (tv : TV) (f : TV → Prop), tvK (some tv) f = f tv) ∧
    (∀ (e : TypeId) (sz by_ : Nat) (z : Value) (f : TypeId → Prop), slK ⟨.slice e, sz, by_, z⟩ f = f e) ∧
    (∀ (n : Nat) (e : TypeId) (sz by_ : Nat) (z : Value) (f : Nat → TypeId → Prop), arK ⟨.array n e, sz, by_, z⟩ f = f n e) ∧
    (∀ (fs : List (Nat × TypeId)) (sz by_ : Nat) (z : Value) (f : List (Nat × TypeId) → Prop), suK ⟨.struct fs, sz, by_, z⟩ f = f fs) ∧
    (∀ (k : IntKind) (sz by_ : Nat) (z : Value) (f : IntKind → Prop), inK ⟨.int k, sz, by_, z⟩ f = f k) ∧
    (∀ (P : Program) (GE : Nat → Option (List AV)) (f : Operand) (args : Array Operand) (ats : Array TypeId) (dst : Option Tmp) (st : St) (K : St → Prop), XOp P GE (.call ⟨.value f, args, ats⟩) dst st K = callK P GE st.rows (eval GE st f) (args.toList.map (eval GE st)) (hid (fun r => K (st.put dst r)) ⟨⟩)) ∧
    (∀ (P : Program) (GE : Nat → Option (List AV)) (x : Operand) (dst : Option Tmp) (st : St) (K : St → Prop), XOp P GE (.move x) dst st K = K (st.put dst (eval GE st x))) ∧
    (∀ (P : Program) (GE : Nat → Option (List AV)) (x : Operand) (dst : Option Tmp) (st : St) (K : St → Prop), XOp P GE (.assign x) dst st K = K (st.put dst (eval GE st x))) ∧
    (∀ (P : Program) (GE : Nat → Option (List AV)) (c x y : Operand) (dst : Option Tmp) (st : St) (K : St → Prop), XOp P GE (.pick c x y) dst st K = pickK (eval GE st c) (eval GE st x) (eval GE st y) (hid (fun v => K (st.put dst v)) ⟨⟩)) ∧
    (∀ (x y : AV) (k : AV → Prop), pickK (.bool true) x y k = k x) ∧
    (∀ (x y : AV) (k : AV → Prop), pickK (.bool false) x y k = k y) ∧
    (∀ (t p q : Bool) (k : AV → Prop), pickK (.bool t) (.bool p) (.bool q) k = k (.bool (if t = true then p else q))) ∧
    (∀ (P : Program) (GE : Nat → Option (List AV)) (e : TypeId) (dst : Option Tmp) (st : St) (K : St → Prop), XOp P GE (.alloc e) dst st K = tvK (tvOf P e) (hid (fun tv => K (St.put { st with rows := st.rows ++ [⟨0, true, zeros tv⟩] } dst (.ptr st.rows.length 0 0))) ⟨⟩)) ∧
    (∀ (P : Program) (GE : Nat → Option (List AV)) (e : TypeId) (x : Operand) (dst : Option Tmp) (st : St) (K : St → Prop), XOp P GE (.box e x) dst st K = cellsK (vcells (eval GE st x)) (hid (fun vs => K (St.put { st with rows := st.rows ++ [⟨0, true, vs⟩] } dst (.ptr st.rows.length 0 0))) ⟨⟩)) ∧
    (∀ (P : Program) (GE : Nat → Option (List AV)) (t : TypeId) (parts : Array (Nat × Operand)) (dst : Option Tmp) (st : St) (K : St → Prop), XOp P GE (.build t parts) dst st K = tvK (tvOf P t) (hid (fun tv => suK tv (hid (fun fs => plK (placesA P fs) (hid (fun pl => cellsK (fillL pl (zeros tv) (parts.toList.map fun p => (p.1, eval GE st p.2))) (hid (fun cs => K (st.put dst (.agg cs))) ⟨⟩)) ⟨⟩)) ⟨⟩)) ⟨⟩)) ∧
    (∀ (l : List (Nat × Nat)) (f : List (Nat × Nat) → Prop), plK (some l) f = f l) ∧
    (∀ (P : Program), placesA P [] = some []) ∧
    (∀ (P : Program) (off : Nat) (t : TypeId) (fs : List (Nat × TypeId)), placesA P ((off, t) :: fs) = plC off (tvOf P t) (placesA P fs)) ∧
    (∀ (off : Nat) (d : TD) (sz by_ : Nat) (z : Value) (l : List (Nat × Nat)), plC off (some ⟨d, sz, by_, z⟩) (some l) = some ((off, sz) :: l)) ∧
    (∀ (GE : Nat → Option (List AV)) (st : St), List.map (fun p : Nat × Operand => (p.1, eval GE st p.2)) [] = []) ∧
    (∀ (GE : Nat → Option (List AV)) (st : St) (i : Nat) (x : Operand) (l : List (Nat × Operand)), List.map (fun p : Nat × Operand => (p.1, eval GE st p.2)) ((i, x) :: l) = (i, eval GE st x) :: List.map (fun p : Nat × Operand => (p.1, eval GE st p.2)) l) ∧
    (∀ (pl : List (Nat × Nat)) (cs : List AV), fillL pl cs [] = some cs) ∧
    (∀ (pl : List (Nat × Nat)) (cs : List AV) (i : Nat) (v : AV) (l : List (Nat × AV)), fillL pl cs ((i, v) :: l) = fillC (pl.getD i (0, 0)) (vcells v) cs (decide (i < pl.length)) (hid (fun cs' => fillL pl cs' l) ⟨⟩)) ∧
    (∀ (off size : Nat) (vs cs : List AV) (k : List AV → Option (List AV)), fillC (off, size) (some vs) cs true k = if vs.length = size ∧ off + size ≤ cs.length then k (overwrite cs off vs) else none) ∧
    (∀ (x y : Nat × Nat) (l : List (Nat × Nat)), (x :: l).getD 0 y = x) ∧
    (∀ (x y : Nat × Nat) (l : List (Nat × Nat)) (n : Nat), (x :: l).getD (n + 1) y = l.getD n y) ∧
    (∀ (P : Program) (GE : Nat → Option (List AV)) (t : TypeId) (n : Nat) (parts : Array (Nat × Operand)) (dst : Option Tmp) (st : St) (K : St → Prop), XOp P GE (.buildSlice t n parts) dst st K = tvK (tvOf P t) (hid (fun tv => slK tv (hid (fun e => tvK (tvOf P e) (hid (fun etv => (0 < etv.size ∧ n * etv.size ≤ 16777216 ∧ etv.z.cells.size = etv.size) ∧ cellsK (fillA (plS etv.size) ((List.replicate n (zeros etv)).flatten) (parts.toList.map fun p => (p.1, eval GE st p.2))) (hid (fun cs => K (st.put dst (if n = 0 then .emp else .lst n cs))) ⟨⟩)) ⟨⟩)) ⟨⟩)) ⟨⟩)) ∧
    (∀ (l : List AV), (List.replicate 0 l).flatten = []) ∧
    (∀ (l : List AV), (List.replicate 1 l).flatten = l) ∧
    (∀ (l : List AV), (List.replicate 2 l).flatten = l ++ l) ∧
    (∀ (l : List AV), (List.replicate 3 l).flatten = l ++ (l ++ l)) ∧
    (∀ (l : List AV), (List.replicate 5 l).flatten = l ++ (l ++ (l ++ (l ++ l)))) ∧
    (∀ (pl : Nat → Option (Nat × Nat)) (cs : List AV), fillA pl cs [] = some cs) ∧
    (∀ (sz : Nat) (cs : List AV) (i : Nat) (v : AV) (l : List (Nat × AV)), fillA (plS sz) cs ((i, v) :: l) = fillC (i * sz, sz) (vcells v) cs true (hid (fun cs' => fillA (plS sz) cs' l) ⟨⟩)) ∧
    (∀ (P : Program) (GE : Nat → Option (List AV)) (t : TypeId) (p : Operand) (dst : Option Tmp) (st : St) (K : St → Prop), XOp P GE (.load t p) dst st K = tvK (tvOf P t) (hid (fun tv => loadK (cellsAt st.rows (eval GE st p)) tv (hid (fun v => K (st.put dst v)) ⟨⟩)) ⟨⟩)) ∧
    (∀ (cs : List AV) (tv : TV) (k : AV → Prop), loadK (some cs) tv k = optK (readAs tv cs) k) ∧
    (∀ (P : Program) (GE : Nat → Option (List AV)) (t : TypeId) (p x : Operand) (dst : Option Tmp) (st : St) (K : St → Prop), XOp P GE (.store t p x) dst st K = tvK (tvOf P t) (hid (fun tv => cellsK (vcells (eval GE st x)) (hid (fun vs => storeK st.rows (eval GE st p) tv.size vs (hid (fun rows' => K (St.put { st with rows := rows' } dst .any)) ⟨⟩)) ⟨⟩)) ⟨⟩)) ∧
    (∀ (P : Program) (GE : Nat → Option (List AV)) (op : BinOp) (t u : TypeId) (x y : Operand) (dst : Option Tmp) (st : St) (K : St → Prop), XOp P GE (.binOp op t x y u) dst st K = binK (tvOf P t) op (eval GE st x) (eval GE st y) (hid (fun v => K (st.put dst v)) ⟨⟩)) ∧
    (∀ (d : TD) (sz by_ : Nat) (z : Value) (op : BinOp) (x y : AV) (k : AV → Prop), binK (some ⟨d, sz, by_, z⟩) op x y k = optK (abin d op x y) k) ∧
    (∀ (o : Option TV) (op : BinOp) (k k' : IntKind) (a b : Int) (f : AV → Prop), binK o op (.int k a) (.int k' b) f = optK (abin .other op (.int k a) (.int k' b)) f) ∧
    (∀ (P : Program) (GE : Nat → Option (List AV)) (op : UnOp) (t : TypeId) (x : Operand) (dst : Option Tmp) (st : St) (K : St → Prop), XOp P GE (.unOp op t x) dst st K = optK (aun op (eval GE st x)) (hid (fun v => K (st.put dst v)) ⟨⟩)) ∧
    (∀ (P : Program) (GE : Nat → Option (List AV)) (s t : TypeId) (x : Operand) (dst : Option Tmp) (st : St) (K : St → Prop), XOp P GE (.convert s t x) dst st K = tvK (tvOf P s) (hid (fun _ => tvK (tvOf P t) (hid (fun tv => inK tv (hid (fun k => convK (eval GE st x) (hid (fun n => K (st.put dst (.int k (k.wrap n)))) ⟨⟩)) ⟨⟩)) ⟨⟩)) ⟨⟩)) ∧
    (∀ (k : IntKind) (n : Int) (f : Int → Prop), convK (.int k n) f = f n) ∧
    (∀ (P : Program) (GE : Nat → Option (List AV)) (t : TypeId) (l c : Operand) (dst : Option Tmp) (st : St) (K : St → Prop), XOp P GE (.makeSlice t l c) dst st K = tvK (tvOf P t) (hid (fun tv => slK tv (hid (fun e => tvK (tvOf P e) (hid (fun etv => makeK (eval GE st l) (eval GE st c) etv (hid (fun n => K (St.put { st with rows := st.rows ++ [⟨0, true, (List.replicate n (zeros etv)).flatten⟩] } dst (.own st.rows.length 0 0 n etv.size))) ⟨⟩)) ⟨⟩)) ⟨⟩)) ⟨⟩)) ∧
    (∀ (k k' : IntKind) (n m : Int) (d : TD) (sz by_ : Nat) (z : Value) (f : Nat → Prop), makeK (.int k n) (.int k' m) ⟨d, sz, by_, z⟩ f = (0 < sz ∧ n = m ∧ 0 ≤ n ∧ (by_ : Int) * n ≤ 281474976710656 ∧ n ≤ 9223372036854775807 ∧ z.cells.size = sz ∧ f n.toNat)) ∧
    (∀ (P : Program) (GE : Nat → Option (List AV)) (t : TypeId) (x : Operand) (lo hi mx : Option Operand) (dst : Option Tmp) (st : St) (K : St → Prop), XOp P GE (.slice t x lo hi mx) dst st K = tvK (tvOf P t) (hid (fun tv => slK tv (hid (fun e => tvK (tvOf P e) (hid (fun etv => sliceK (eval GE st x) (boundV GE st lo) (hi.map (eval GE st)) (mx.map (eval GE st)) etv.size (hid (fun v => K (st.put dst v)) ⟨⟩)) ⟨⟩)) ⟨⟩)) ⟨⟩)) ∧
    (∀ (GE : Nat → Option (List AV)) (st : St), boundV GE st none = .int .i64 0) ∧
    (∀ (GE : Nat → Option (List AV)) (st : St) (q : Operand), boundV GE st (some q) = eval GE st q) ∧
    (∀ (GE : Nat → Option (List AV)) (st : St), Option.map (eval GE st) none = none) ∧
    (∀ (GE : Nat → Option (List AV)) (st : St) (q : Operand), Option.map (eval GE st) (some q) = some (eval GE st q)) ∧
    (∀ (P : Program) (GE : Nat → Option (List AV)) (s : TypeId) (p : Operand) (f : Nat) (dst : Option Tmp) (st : St) (K : St → Prop), XOp P GE (.fieldAddr s p f) dst st K = tvK (tvOf P s) (hid (fun tv => suK tv (hid (fun fs => placeK (fieldPlaceA P fs f) (hid (fun off size => size ≠ 0 ∧ fieldK st.rows (eval GE st p) off (hid (fun v => K (st.put dst v)) ⟨⟩)) ⟨⟩)) ⟨⟩)) ⟨⟩)) ∧
    (∀ (off size : Nat) (f : Nat → Nat → Prop), placeK (some (off, size)) f = f off size) ∧
    (∀ (P : Program) (off : Nat) (t : TypeId) (fs : List (Nat × TypeId)), fieldPlaceA P ((off, t) :: fs) 0 = fpC off (tvOf P t)) ∧
    (∀ (P : Program) (x : Nat × TypeId) (fs : List (Nat × TypeId)) (f : Nat), fieldPlaceA P (x :: fs) (f + 1) = fieldPlaceA P fs f) ∧
    (∀ (off : Nat) (d : TD) (sz by_ : Nat) (z : Value), fpC off (some ⟨d, sz, by_, z⟩) = some (off, sz)) ∧
    (∀ (P : Program) (GE : Nat → Option (List AV)) (s : TypeId) (x : Operand) (f : Nat) (dst : Option Tmp) (st : St) (K : St → Prop), XOp P GE (.field s x f) dst st K = tvK (tvOf P s) (hid (fun tv => suK tv (hid (fun fs => fldK (fs[f]?) (hid (fun off t => tvK (tvOf P t) (hid (fun ftv => aggK (eval GE st x) (hid (fun cs => optK (readAs ftv (cs.drop off)) (hid (fun v => K (st.put dst v)) ⟨⟩)) ⟨⟩)) ⟨⟩)) ⟨⟩)) ⟨⟩)) ⟨⟩)) ∧
    (∀ (off : Nat) (t : TypeId) (f : Nat → TypeId → Prop), fldK (some (off, t)) f = f off t) ∧
    (∀ (x : Nat × TypeId) (l : List (Nat × TypeId)), (x :: l)[0]? = some x) ∧
    (∀ (x : Nat × TypeId) (l : List (Nat × TypeId)) (n : Nat), (x :: l)[n + 1]? = l[n]?) ∧
    (∀ (P : Program) (GE : Nat → Option (List AV)) (t : TypeId) (x i : Operand) (dst : Option Tmp) (st : St) (K : St → Prop), XOp P GE (.index t x i) dst st K = tvK (tvOf P t) (hid (fun tv => arK tv (hid (fun n e => tvK (tvOf P e) (hid (fun etv => natK (eval GE st i) (hid (fun j => aggK (eval GE st x) (hid (fun cs => j < n ∧ optK (readAs etv (cs.drop (j * etv.size))) (hid (fun v => K (st.put dst v)) ⟨⟩)) ⟨⟩)) ⟨⟩)) ⟨⟩)) ⟨⟩)) ⟨⟩)) ∧
    (∀ (P : Program) (GE : Nat → Option (List AV)) (t : TypeId) (x i : Operand) (dst : Option Tmp) (st : St) (K : St → Prop), XOp P GE (.indexAddr t x i) dst st K = tvK (tvOf P t) (hid (fun tv => natK (eval GE st i) (hid (fun j => elK tv (hid (fun e => tvK (tvOf P e) (hid (fun etv => indexK st.rows (eval GE st x) tv etv.size j (hid (fun v => K (st.put dst v)) ⟨⟩)) ⟨⟩)) ⟨⟩)) ⟨⟩)) ⟨⟩)) ∧
    (∀ (e : TypeId) (sz by_ : Nat) (z : Value) (f : TypeId → Prop), elK ⟨.slice e, sz, by_, z⟩ f = f e) ∧
    (∀ (n : Nat) (e : TypeId) (sz by_ : Nat) (z : Value) (f : TypeId → Prop), elK ⟨.array n e, sz, by_, z⟩ f = f e) ∧
    (∀ (rows : List Row) (n : Nat) (cs : List AV) (e sz by_ : Nat) (z : Value) (es j : Nat) (k : AV → Prop), indexK rows (.lst n cs) ⟨.slice e, sz, by_, z⟩ es j k = ((j < n ∧ j * es < cs.length) ∧ k (.lptr (cs.drop (j * es))))) ∧
    (∀ (rows : List Row) (cs : List AV) (n e sz by_ : Nat) (z : Value) (es j : Nat) (k : AV → Prop), indexK rows (.lptr cs) ⟨.array n e, sz, by_, z⟩ es j k = (j < n ∧ k (.lptr (cs.drop (j * es))))) ∧
    (∀ (rows : List Row) (r ver off n s2 : Nat) (e sz by_ : Nat) (z : Value) (es j : Nat) (k : AV → Prop), indexK rows (.own r ver off n s2) ⟨.slice e, sz, by_, z⟩ es j k = rowIs rows r ver (hid (fun _ => (j < n ∧ s2 = es) ∧ k (.ptr r ver (off + j * es))) ⟨⟩)) ∧
    (∀ (P : Program) (GE : Nat → Option (List AV)) (x : Operand) (i : Nat) (dst : Option Tmp) (st : St) (K : St → Prop), XOp P GE (.extract x i) dst st K = tupK (eval GE st x) i (hid (fun v => K (st.put dst v)) ⟨⟩)) ∧
    (∀ (P : Program) (GE : Nat → Option (List AV)) (x : Operand) (t : TypeId) (dst : Option Tmp) (st : St) (K : St → Prop), XOp P GE (.call ⟨.builtin .len, #[x], #[t]⟩) dst st K = tvK (tvOf P t) (hid (fun tv => slK tv (hid (fun _ => lenK (lenA (eval GE st x)) (hid (fun n => K (st.put dst (.int .i64 n))) ⟨⟩)) ⟨⟩)) ⟨⟩)) ∧
    (∀ (n : Nat) (k : Nat → Prop), lenK (some n) k = k n) ∧
    (∀ (n : Nat) (cs : List AV), lenA (.lst n cs) = some n) ∧
    (lenA .emp = some 0) ∧
    (∀ (r v o n s : Nat), lenA (.own r v o n s) = some n) ∧
    (∀ (P : Program) (GE : Nat → Option (List AV)) (x y : Operand) (ats : Array TypeId) (dst : Option Tmp) (st : St) (K : St → Prop), XOp P GE (.call ⟨.builtin .max, #[x, y], ats⟩) dst st K = optK (foldMM (fun x y => max x y) (eval GE st x) [eval GE st y]) (hid (fun v => K (st.put dst v)) ⟨⟩)) ∧
    (∀ (P : Program) (GE : Nat → Option (List AV)) (x y : Operand) (ats : Array TypeId) (dst : Option Tmp) (st : St) (K : St → Prop), XOp P GE (.call ⟨.builtin .min, #[x, y], ats⟩) dst st K = optK (foldMM (fun x y => min x y) (eval GE st x) [eval GE st y]) (hid (fun v => K (st.put dst v)) ⟨⟩)) ∧
    (∀ (P : Program) (GE : Nat → Option (List AV)) (x y u : Operand) (ats : Array TypeId) (dst : Option Tmp) (st : St) (K : St → Prop), XOp P GE (.call ⟨.builtin .max, #[x, y, u], ats⟩) dst st K = optK (foldMM (fun x y => max x y) (eval GE st x) [eval GE st y, eval GE st u]) (hid (fun v => K (st.put dst v)) ⟨⟩)) ∧
    (∀ (f : Int → Int → Int) (k : IntKind) (x : Int), foldMM f (.int k x) [] = some (.int k x)) ∧
    (∀ (f : Int → Int → Int) (k k' : IntKind) (x y : Int) (l : List AV), foldMM f (.int k x) (.int k' y :: l) = foldMM f (.int k (f x y)) l) ∧
    (∀ (P : Program) (GE : Nat → Option (List AV)) (s x : Operand) (t : TypeId) (dst : Option Tmp) (st : St) (K : St → Prop), XOp P GE (.call ⟨.builtin .append, #[s, x], #[t, t]⟩) dst st K = tvK (tvOf P t) (hid (fun tv => slK tv (hid (fun e => tvK (tvOf P e) (hid (fun etv => etv.z.cells.size = etv.size ∧ appK st.rows (eval GE st s) (elems st.rows (eval GE st x)) etv (hid (fun rows' v => K (St.put { st with rows := rows' } dst v)) ⟨⟩)) ⟨⟩)) ⟨⟩)) ⟨⟩)) ∧
    (∀ (rows : List Row) (m : Nat) (cs : List AV) (tv : TV) (k : List Row → AV → Prop), appK rows .emp (some (m, cs)) tv k = ((cs.length = m * tv.size ∧ 0 < tv.size ∧ cs.all cell1 = true) ∧ if m = 0 then k rows .emp else ((m * tv.bytes ≤ 140737488355328 ∧ m ≤ 9223372036854775807) ∧ k (rows ++ [⟨0, true, cs⟩]) (.own rows.length 0 0 m tv.size)))) ∧
    (∀ (rows : List Row) (r ver n sz m : Nat) (cs : List AV) (tv : TV) (k : List Row → AV → Prop), appK rows (.own r ver 0 n sz) (some (m, cs)) tv k = ((cs.length = m * tv.size ∧ 0 < tv.size ∧ cs.all cell1 = true) ∧ rowIs rows r ver (hid (fun row => (row.hot = true ∧ sz = tv.size ∧ row.cells.length = n * sz ∧ (n + m) * tv.bytes ≤ 140737488355328 ∧ n + m ≤ 9223372036854775807) ∧ k (rows.set r ⟨ver + 1, true, row.cells ++ cs⟩) (.own r (ver + 1) 0 (n + m) sz)) ⟨⟩))) ∧
    (∀ (rows : List Row) (n : Nat) (cs : List AV), elems rows (.lst n cs) = some (n, cs)) ∧
    (∀ (rows : List Row), elems rows .emp = some (0, [])) ∧
    (∀ (v : AV) (k : AV → Prop), optK (some v) k = k v) ∧
    (∀ (c : Prop) [Decidable c] (v : AV) (k : AV → Prop), optK (if c then some v else none) k = (c ∧ k v)) ∧
    (∀ (v : List AV) (k : List AV → Prop), cellsK (some v) k = k v) ∧
    (∀ (c : Prop) [Decidable c] (v : List AV) (k : List AV → Prop), cellsK (if c then some v else none) k = (c ∧ k v)) ∧
    (∀ (cs : List AV), vcells (.agg cs) = some cs) ∧
    (∀ (i : IntKind) (n : Int), vcells (.int i n) = some [.int i n]) ∧
    (∀ (b : Bool), vcells (.bool b) = some [.bool b]) ∧
    (∀ (n : Nat) (cs : List AV), vcells (.lst n cs) = some [.lst n cs]) ∧
    (∀ (v : Value), vcells (.lit v) = some [.lit v]) ∧
    (vcells .emp = some [.emp]) ∧
    (∀ (r v o n s : Nat), vcells (.own r v o n s) = some [.own r v o n s]) ∧
    (∀ (cs : List AV) (k : List AV → Prop), aggK (.agg cs) k = k cs) ∧
    (∀ (v : AV) (vs : List AV) (k : AV → Prop), tupK (.tup (v :: vs)) 0 k = k v) ∧
    (∀ (v : AV) (vs : List AV) (i : Nat) (k : AV → Prop), tupK (.tup (v :: vs)) (i + 1) k = tupK (.tup vs) i k) ∧
    (∀ (k : IntKind) (n : Int) (f : Nat → Prop), natK (.int k n) f = (0 ≤ n ∧ f n.toNat)) ∧
    (∀ (rows : List Row) (cs : List AV), cellsAt rows (.lptr cs) = some cs) ∧
    (∀ (rows : List Row) (r ver off : Nat) , cellsAt rows (.ptr r ver off) = rowAt rows r ver off) ∧
    (∀ (ver : Nat) (hot : Bool) (cs : List AV) (rows : List Row) (off : Nat), rowAt (⟨ver, hot, cs⟩ :: rows) 0 ver off = some (cs.drop off)) ∧
    (∀ (x : Row) (rows : List Row) (r ver off : Nat), rowAt (x :: rows) (r + 1) ver off = rowAt rows r ver off) ∧
    (∀ (rows : List Row) (cs : List AV) (off : Nat) (k : AV → Prop), fieldK rows (.lptr cs) off k = k (.lptr (cs.drop off))) ∧
    (∀ (rows : List Row) (r ver o off : Nat) (k : AV → Prop), fieldK rows (.ptr r ver o) off k = rowIs rows r ver (hid (fun _ => k (.ptr r ver (o + off))) ⟨⟩)) ∧
    (∀ (ver : Nat) (hot : Bool) (cs : List AV) (rows : List Row) (k : Row → Prop), rowIs (⟨ver, hot, cs⟩ :: rows) 0 ver k = k ⟨ver, hot, cs⟩) ∧
    (∀ (x : Row) (rows : List Row) (r ver : Nat) (k : Row → Prop), rowIs (x :: rows) (r + 1) ver k = rowIs rows r ver k) ∧
    (∀ (size : Nat) (rows : List Row) (r ver off : Nat) (vs : List AV) (k : List Row → Prop), storeK rows (.ptr r ver off) size vs k = rowIs rows r ver (hid (fun row => row.hot = true ∧ vs.length = size ∧ off + vs.length ≤ row.cells.length ∧ vs.all cell1 = true ∧ k (rows.set r ⟨ver, true, overwrite row.cells off vs⟩)) ⟨⟩)) ∧
    (∀ (x y : Row) (l : List Row), (x :: l).set 0 y = y :: l) ∧
    (∀ (x y : Row) (l : List Row) (n : Nat), (x :: l).set (n + 1) y = x :: l.set n y) ∧
    (∀ (x : Row), ([] : List Row) ++ [x] = [x]) ∧
    (∀ (x y : Row) (l : List Row), (x :: l) ++ [y] = x :: (l ++ [y])) ∧
    (([] : List Row).length = 0) ∧
    (∀ (x : Row) (l : List Row), (x :: l).length = l.length + 1) ∧
    (∀ (fs : List (Nat × TypeId)) (sz by_ : Nat) (z : Value) (cs : List AV), readAs ⟨.struct fs, sz, by_, z⟩ cs = if sz ≤ cs.length then some (.agg (cs.take sz)) else none) ∧
    (∀ (n e sz by_ : Nat) (z : Value) (cs : List AV), readAs ⟨.array n e, sz, by_, z⟩ cs = if sz ≤ cs.length then some (.agg (cs.take sz)) else none) ∧
    (∀ (k : IntKind) (sz by_ : Nat) (z : Value) (cs : List AV), readAs ⟨.int k, sz, by_, z⟩ cs = cs[0]?) ∧
    (∀ (sz by_ : Nat) (z : Value) (cs : List AV), readAs ⟨.bool, sz, by_, z⟩ cs = cs[0]?) ∧
    (∀ (e : TypeId) (sz by_ : Nat) (z : Value) (cs : List AV), readAs ⟨.slice e, sz, by_, z⟩ cs = cs[0]?) ∧
    (∀ (sz by_ : Nat) (z : Value) (cs : List AV), readAs ⟨.other, sz, by_, z⟩ cs = cs[0]?) ∧
    (∀ (x : AV) (l : List AV), (x :: l)[0]? = some x) ∧
    (∀ (l : List AV), l.drop 0 = l) ∧
    (∀ (x : AV) (l : List AV) (n : Nat), (x :: l).drop (n + 1) = l.drop n) ∧
    (∀ (l : List AV), l.take 0 = []) ∧
    (∀ (x : AV) (l : List AV) (n : Nat), (x :: l).take (n + 1) = x :: l.take n) ∧
    (([] : List AV).length = 0) ∧
    (∀ (x : AV) (l : List AV), (x :: l).length = l.length + 1) ∧
    (∀ (l : List AV), [] ++ l = l) ∧
    (∀ (x : AV) (l l' : List AV), (x :: l) ++ l' = x :: (l ++ l')) ∧
    (∀ (cells : List AV) (off : Nat) (v : AV), overwrite cells off [v] = cells.set off v) ∧
    (∀ (cells : List AV) (off : Nat) (u v : AV) (l : List AV), overwrite cells off (u :: v :: l) = cells.take off ++ (u :: v :: l) ++ cells.drop (off + (u :: v :: l).length)) ∧
    (([] : List AV).all cell1 = true) ∧
    (∀ (x : AV) (l : List AV), (x :: l).all cell1 = (cell1 x && l.all cell1)) ∧
    (∀ (k : IntKind) (n : Int), cell1 (.int k n) = true) ∧
    (∀ (b : Bool), cell1 (.bool b) = true) ∧
    (∀ (n : Nat) (cs : List AV), cell1 (.lst n cs) = true) ∧
    (cell1 .emp = true) ∧
    (∀ (v : Value), cell1 (.lit v) = true) ∧
    (∀ (r v o n s : Nat), cell1 (.own r v o n s) = true) ∧
    (∀ (b : Bool), aun .not (.bool b) = some (.bool !b)) ∧
    (∀ (k : IntKind) (n : Int), aun .neg (.int k n) = some (.int k (k.wrap (0 - n)))) ∧
    (∀ (k : IntKind) (n : Int), aun .xor (.int k n) = some (.int k (bits .xor k (if k.signed then -1 else k.max) n))) ∧
    (∀ (d : TD) (k : IntKind) (a b : Int), abin d .add (.int k a) (.int k b) = some (.int k (k.wrap (a + b)))) ∧
    (∀ (d : TD) (k : IntKind) (a b : Int), abin d .sub (.int k a) (.int k b) = some (.int k (k.wrap (a - b)))) ∧
    (∀ (d : TD) (k : IntKind) (a b : Int), abin d .mul (.int k a) (.int k b) = some (.int k (k.wrap (a * b)))) ∧
    (∀ (d : TD) (k : IntKind) (a b : Int), abin d .and (.int k a) (.int k b) = some (.int k (bits .and k a b))) ∧
    (∀ (d : TD) (k : IntKind) (a b : Int), abin d .or (.int k a) (.int k b) = some (.int k (bits .or k a b))) ∧
    (∀ (d : TD) (k : IntKind) (a b : Int), abin d .xor (.int k a) (.int k b) = some (.int k (bits .xor k a b))) ∧
    (∀ (d : TD) (k : IntKind) (a b : Int), abin d .andNot (.int k a) (.int k b) = some (.int k (bits .andNot k a b))) ∧
    (∀ (d : TD) (k : IntKind) (a b : Int), abin d .eql (.int k a) (.int k b) = some (.bool (a == b))) ∧
    (∀ (d : TD) (k : IntKind) (a b : Int), abin d .neq (.int k a) (.int k b) = some (.bool (a != b))) ∧
    (∀ (d : TD) (k : IntKind) (a b : Int), abin d .lss (.int k a) (.int k b) = some (.bool (decide (a < b)))) ∧
    (∀ (d : TD) (k : IntKind) (a b : Int), abin d .leq (.int k a) (.int k b) = some (.bool (decide (a ≤ b)))) ∧
    (∀ (d : TD) (k : IntKind) (a b : Int), abin d .gtr (.int k a) (.int k b) = some (.bool (decide (b < a)))) ∧
    (∀ (d : TD) (k : IntKind) (a b : Int), abin d .geq (.int k a) (.int k b) = some (.bool (decide (b ≤ a)))) ∧
    (∀ (d : TD) (k : IntKind) (a b : Int), abin d .quo (.int k a) (.int k b) = if b ≠ 0 then some (.int k (k.wrap (a.tdiv b))) else none) ∧
    (∀ (d : TD) (k : IntKind) (a b : Int), abin d .rem (.int k a) (.int k b) = if b ≠ 0 then some (.int k (a.tmod b)) else none) ∧
    (∀ (d : TD) (k k' : IntKind) (a b : Int), abin d .shl (.int k a) (.int k' b) = if 0 ≤ b then some (.int k (k.wrap (a * 2 ^ (min b.toNat k.bits)))) else none) ∧
    (∀ (d : TD) (k k' : IntKind) (a b : Int), abin d .shr (.int k a) (.int k' b) = if 0 ≤ b then some (.int k (a.fdiv (2 ^ (min b.toNat k.bits)))) else none) ∧
    (∀ (a b : Bool), abin .bool .eql (.bool a) (.bool b) = some (.bool (a == b))) ∧
    (∀ (a b : Bool), abin .bool .neq (.bool a) (.bool b) = some (.bool (a != b))) ∧
    (∀ (α : Type) (f : α → Prop) (d : Dum f) (x : α), hid f d x = f x) ∧
    (∀ (α : Type) (f : α → Option (List AV)) (d : Dum f) (x : α), hid f d x = f x) ∧
    (∀ (α β : Type) (f : α → β → Prop) (d : Dum f) (x : α) (y : β), hid f d x y = f x y) :=
  ⟨r_ops_nil, r_ops_cons, r_app0, r_app1, r_g_none, r_g_some, r_guard_tt, r_guard_ff, r_guard_tf, r_guard_ft, r_gval_eq, r_boolA_b, r_boolA_u, r_guard_u, r_getDs, r_D0, r_DS, r_E0, r_ES, r_S0, r_SS, r_put_some, r_put_none, r_eval_tmp, r_eval_const, r_eval_func, r_eval_global, r_glob_some, r_abs_int, r_abs_bool, r_abs_nil, r_abs_agg, r_absC_int, r_absC_bool, r_absC_nil, r_vc_agg, r_vc_int, r_vc_bool, r_vc_nil, r_zeros_eq, r_map_nil, r_map_cons, r_emap_nil, r_emap_cons, r_tv_some, r_sl_eq, r_ar_eq, r_su_eq, r_in_eq, r_x_call, r_x_move, r_x_assign, r_x_pick, r_pick_t, r_pick_f, r_pick_bb, r_x_alloc, r_x_box, r_x_build, r_pl_some, r_pl_nil, r_pl_cons, r_plC_some, r_pmap_nil, r_pmap_cons, r_fill_nil, r_fill_cons, r_fillC_some, r_P0, r_PS, r_x_buildSlice, r_rep0, r_rep1, r_rep2, r_rep3, r_rep5, r_fs_nil, r_fs_cons, r_x_load, r_load_some, r_x_store, r_x_bin, r_bin_some, r_bin_int, r_x_un, r_x_conv, r_conv_int, r_x_make, r_make_ii, r_x_slice, r_bV_none, r_bV_some, r_om_none, r_om_some, r_x_fieldAddr, r_place_some, r_fp_0, r_fp_s, r_fpC_some, r_x_field, r_fld_some, r_f0, r_fS, r_x_index, r_x_indexAddr, r_el_sl, r_el_ar, r_ix_lst, r_ix_arr, r_ix_own, r_x_extract, r_x_len, r_len_some, r_lenA_lst, r_lenA_emp, r_lenA_own, r_x_max, r_x_min, r_x_max3, r_mm1, r_mm2, r_x_append, r_app_emp, r_app_own, r_el_lst, r_el_emp, r_opt_some, r_opt_ite, r_ce_some, r_ce_ite, r_v_agg, r_v_int, r_v_bool, r_v_lst, r_v_lit, r_v_emp, r_v_own, r_agg_agg, r_tup_0, r_tup_s, r_nat_int, r_at_lptr, r_at_ptr, r_rowAt_0, r_rowAt_s, r_field_lptr, r_field_ptr, r_rowIs_0, r_rowIs_s, r_store_ptr, r_set0, r_setS, r_rapp0, r_rapp1, r_rlen0, r_rlen1, r_read_agg, r_read_agg2, r_read_int, r_read_bool, r_read_slice, r_read_other, r_g0, r_dr0, r_drS, r_tk0, r_tkS, r_ln0, r_ln1, r_ap0, r_ap1, r_over1, r_over2, r_all0, r_all1, r_c1_int, r_c1_bool, r_c1_lst, r_c1_emp, r_c1_lit, r_c1_own, r_un_not, r_un_neg, r_un_xor, r_b_add, r_b_sub, r_b_mul, r_b_and, r_b_or, r_b_xor, r_b_andNot, r_b_eql, r_b_neq, r_b_lss, r_b_leq, r_b_gtr, r_b_geq, r_b_quo, r_b_rem, r_b_shl, r_b_shr, r_b_beq, r_b_bne, r_hid2, r_hid3, r_hid4⟩
end Go.Ax
