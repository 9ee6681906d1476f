/-
  The framework of this work: abstract values and states, operations, regions, code, functions: proved sound over the model.
-/
import Derived.Test.YtenfiehjbeojeaaGreatDoorX1
set_option linter.unusedVariables false
set_option linter.unusedSimpArgs false
namespace Go.Ax
open Go.RowKit
section
variable {P : Program} {GE : Nat → Option (List AV)} {w0 : World} {ok0 : Nat → Prop} {B : Option Nat} {β : Nat → Nat} {st : St} {a : Act} {w : World}
theorem done_load (h : SR w0 ok0 B β st a w) (hB : ∀ k, B = some k → ¬ ok0 k) (hG : GRep GE w0 ok0) {o : Oper} {t : TypeId} {p : Operand} {tv : TV} {cs : List AV} {x : AV}
    (ho : o.op = .load t p) (ht : tvOf P t = some tv) (hc : cellsAt st.rows (eval GE st p) = some cs) (hx : readAs tv cs = some x) : Done P w0 ok0 B o a w st x := by
  obtain ⟨b, of, he, hm⟩ := cellsAt_sound h (eval_sound h hB hG p) hc
  obtain ⟨v, h1, h2⟩ := load_sound ht hm hx
  refine Done.same h ?_ h2
  simp [execOp, ho, Instr.loadAt, he, Instr.sureAddr, h1]
theorem overwrite_eq {zs ys : List AV} {off : Nat} (hle : off + ys.length ≤ zs.length) : overwrite zs off ys = zs.take off ++ ys ++ zs.drop (off + ys.length) := by
  unfold overwrite
  split
  · rename_i y
    simp at hle
    rw [List.set_eq_take_append_cons_drop]
    simp [show off < zs.length by omega]
  · rfl
theorem done_store (h : SR w0 ok0 B β st a w) (hB : ∀ k, B = some k → ¬ ok0 k) (hG : GRep GE w0 ok0) {o : Oper} {t : TypeId} {p x : Operand} {tv : TV} {r ver off : Nat} {vs : List AV} {row : Row}
    (ho : o.op = .store t p x) (ht : tvOf P t = some tv) (hp : eval GE st p = .ptr r ver off) (hv : vcells (eval GE st x) = some vs) (hr : st.rows[r]? = some row)
    (h1 : row.ver = ver) (h2 : row.hot = true) (h3 : vs.length = tv.size) (h4 : off + vs.length ≤ row.cells.length) (h5 : vs.all cell1 = true) :
    Done P w0 ok0 B o a w { st with rows := st.rows.set r ⟨ver, true, overwrite row.cells off vs⟩ } .any := by
  have hpv := eval_sound h hB hG p
  rw [hp] at hpv
  obtain ⟨ad, he, row', hr', hle, hh⟩ := hpv
  rw [hr] at hr'
  cases hr'
  rw [hh h1] at he
  have hxs := vcells_sound (eval_sound h hB hG x) hv
  obtain ⟨⟨c, e, hce⟩, hmr, hBr⟩ := h.row r row hr
  obtain ⟨us, hus, hcells⟩ := hmr.vals
  have hul := hus.length_eq
  have hxl := hxs.length_eq
  have hget : ∀ (i : Nat) (v : Value), us[i]? = some v → c[i]? = some v := fun i v hv => by
    have := hcells i v hv
    rw [cell_of_row _ _ _ c e (0, 0) hce, Nat.zero_add] at this
    exact this
  have hcs : us.length ≤ c.size := by
    rcases Nat.lt_or_ge c.size us.length with hlt | hge
    · have := hget c.size us[c.size] (List.getElem?_eq_getElem hlt)
      simp at this
    · exact hge
  have htake : c.toList.take us.length = us := by
    apply List.ext_getElem?
    intro i
    rw [List.getElem?_take]
    split
    · rename_i hi
      rw [List.getElem?_eq_getElem hi]
      simpa using hget i us[i] (List.getElem?_eq_getElem hi)
    · rw [List.getElem?_eq_none (by omega)]
  have hst := run_storeCells_at P (β r) off e (a.eval x).cells.toList 0 c w hce (by simp; simp at hxl; omega) (cells1_sound hxs h5)
  simp only [Nat.add_zero] at hst
  have hrun : (execOp a.eval o).run P w = .ok .skip (w.setRow (β r) (c.toList.take off ++ (a.eval x).cells.toList ++ c.toList.drop (off + (a.eval x).cells.toList.length)).toArray) := by
    have hsz : (a.eval x).cells.size = tv.size := by simp at hxl; omega
    simp only [Array.length_toList] at hst
    simp [execOp, ho, Instr.storeAt, he, Instr.sureAddr, storeVar, run_sizeOf' ht, hsz]
    simp only [hsz] at hst
    rw [hst]
    simp [List.append_assoc]
  subst h1
  obtain ⟨hS, hm⟩ := h.renew (w' := w.setRow (β r) (c.toList.take off ++ (a.eval x).cells.toList ++ c.toList.drop (off + (a.eval x).cells.toList.length)).toArray) (g := β r) (ver := row.ver)
    (cells := overwrite row.cells off vs) (vs := us.take off ++ (a.eval x).cells.toList ++ us.drop (off + (a.eval x).cells.toList.length)) hr h2 (Nat.le_refl _) (.inl rfl)
    (setRow_heap w (β r) c _ e (0, 0) hce) (fun _ => ⟨rfl, fun c' e' hc' => by rw [hce] at hc'; cases hc'; simp; simp at hxl; omega⟩)
    (fun k _ hk => setRow_other w (β r) k _ hk) rfl rfl rfl (by simp)
    (by rw [overwrite_eq h4, hxl]; exact ((hus.take off).append hxs).append (hus.drop _))
    (fun i v hi => by
      rw [← htake] at hi
      simp only [List.getElem?_toArray]
      rw [List.getElem?_append] at hi ⊢
      simp only [List.length_append, List.length_take, Array.length_toList, List.take_take] at hi ⊢
      simp only [Array.length_toList] at hxl
      have e1 : min off us.length = off := by omega
      have e2 : min off (min us.length c.size) = off := by omega
      have e3 : min off c.size = off := by omega
      simp only [e1, e2, e3] at hi ⊢
      split at hi
      · rename_i hlt
        rw [if_pos hlt]
        exact hi
      · rename_i hlt
        rw [if_neg hlt]
        rw [List.getElem?_drop, List.getElem?_take] at hi
        rw [List.getElem?_drop]
        split at hi
        · exact hi
        · simp at hi)
  refine ⟨β, undef, _, _, hrun, .inr ⟨rfl, rfl⟩, ?_, trivial⟩
  have hβ : (fun q => if q = r then β r else β q) = β := by funext q; by_cases hq : q = r <;> simp [hq]
  rw [hβ] at hS
  exact hS
theorem done_bin (h : SR w0 ok0 B β st a w) (hB : ∀ k, B = some k → ¬ ok0 k) (hG : GRep GE w0 ok0) {o : Oper} {op : BinOp} {t u : TypeId} {x y : Operand} {d : TD} {z : AV}
    (ho : o.op = .binOp op t x y u) (hd : ∀ tv, tvOf P t = some tv → tv.d = d) (hd' : tvOf P t = none → d = .other) (hz : abin d op (eval GE st x) (eval GE st y) = some z) : Done P w0 ok0 B o a w st z := by
  obtain ⟨v, h1, h2⟩ := abin_sound hd hd' hz (eval_sound h hB hG x) (eval_sound h hB hG y) x y
  refine Done.same h ?_ h2
  simp only [execOp, ho]
  rw [Sem.run_bind, h1]
  rfl
theorem done_un (h : SR w0 ok0 B β st a w) (hB : ∀ k, B = some k → ¬ ok0 k) (hG : GRep GE w0 ok0) {o : Oper} {op : UnOp} {t : TypeId} {x : Operand} {z : AV}
    (ho : o.op = .unOp op t x) (hz : aun op (eval GE st x) = some z) : Done P w0 ok0 B o a w st z := by
  have hx := eval_sound h hB hG x
  cases hxx : eval GE st x <;> rw [hxx] at hz hx <;> cases op <;> simp [aun] at hz <;> subst hz <;> (have hx' := hx; simp only [VRep] at hx')
  · exact Done.same h (by simp [execOp, ho, hx', Op.unary, Op.intArith]) rfl
  · exact Done.same h (by simp [execOp, ho, hx', Op.unary, Op.intBits, bits]) rfl
  · exact Done.same h (by simp [execOp, ho, hx', Op.unary]) rfl
theorem done_convert (h : SR w0 ok0 B β st a w) (hB : ∀ k, B = some k → ¬ ok0 k) (hG : GRep GE w0 ok0) {o : Oper} {s t : TypeId} {x : Operand} {sv tv : TV} {k k' : IntKind} {n : Int}
    (ho : o.op = .convert s t x) (hs : tvOf P s = some sv) (ht : tvOf P t = some tv) (hx : eval GE st x = .int k' n) (hd : tv.d = .int k) : Done P w0 ok0 B o a w st (.int k (k.wrap n)) := by
  have hx' := eval_sound h hB hG x
  rw [hx] at hx'
  have hx2 : a.eval x = .int k' n := hx'
  obtain ⟨_, d, _, hu, htd, _⟩ := tvOf_spec ht
  obtain ⟨_, ds, _, hus, _⟩ := tvOf_spec hs
  rw [hd] at htd
  cases d <;> simp [tdOf] at htd
  subst htd
  refine Done.same h ?_ rfl
  simp [execOp, ho, convert, run_underlying hus, run_underlying hu, hx2, Conv.intToInt]
theorem done_make (h : SR w0 ok0 B β st a w) (hB : ∀ k, B = some k → ¬ ok0 k) (hG : GRep GE w0 ok0) {o : Oper} {t e : TypeId} {l c : Operand} {tv etv : TV} {k k' : IntKind} {n : Int}
    (ho : o.op = .makeSlice t l c) (ht : tvOf P t = some tv) (hd : tv.d = .slice e) (he : tvOf P e = some etv) (hl : eval GE st l = .int k n) (hc : eval GE st c = .int k' n)
    (h0 : 0 < etv.size) (h1 : 0 ≤ n) (h2 : (etv.bytes : Int) * n ≤ 281474976710656) (h3 : n ≤ 9223372036854775807) (hzs : etv.z.cells.size = etv.size) :
    Done P w0 ok0 B o a w { st with rows := st.rows ++ [⟨0, true, (List.replicate n.toNat (zeros etv)).flatten⟩] } (.own st.rows.length 0 0 n.toNat etv.size) := by
  have hl' := eval_sound h hB hG l
  have hc' := eval_sound h hB hG c
  rw [hl] at hl'
  rw [hc] at hc'
  have hl2 : a.eval l = .int k n := hl'
  have hc2 : a.eval c = .int k' n := hc'
  obtain ⟨_, d, _, hu, htd, _⟩ := tvOf_spec ht
  rw [hd] at htd
  cases d <;> simp [tdOf] at htd
  rename_i e'
  subst htd
  obtain ⟨i, de, hi, hue, _, hsz, hby, hz⟩ := tvOf_spec he
  refine done_push h (e := e') (c := madeCells etv.z.cells (n.toNat * etv.size)) (vs := (madeCells etv.z.cells (n.toNat * etv.size)).toList) (w1 := w) (madeCells_sound etv n.toNat h0 hzs) (by simp) (.inl rfl) ?_
    (.inr ⟨n.toNat, etv.size, n.toNat, rfl, rfl, Nat.le_refl _, by rw [size_madeCells]; exact Nat.le_refl _⟩)
  have := run_make (P := P) w t _ i etv.z hu hi hz k k' n n h1 (Int.le_refl _) (by rw [hby]; exact h2) h3
  simp only [execOp, ho, hl2, hc2]
  rw [Sem.run_bind, this, hsz]
  rfl
theorem run_sliceAt {t e : TypeId} {tv etv : TV} (ht : tvOf P t = some tv) (hd : tv.d = .slice e) (he : tvOf P e = some etv) (ad : Option Addr) (n cap l hh m : Nat) (h1 : l ≤ hh) (h2 : hh ≤ m) (h3 : m ≤ cap)
    (lo hi mx : Option Value) (hlo : (lo = none ∧ l = 0) ∨ ∃ k, lo = some (.int k (l : Int))) (hhi : (hi = none ∧ mx = none ∧ hh = n) ∨ ∃ k, hi = some (.int k (hh : Int))) (hmx : (mx = none ∧ m = cap) ∨ ∃ k, mx = some (.int k (m : Int))) :
    (Instr.sliceAt t (.slice ad n cap) lo hi mx).run P w = .ok (.slice (if m = l then ad else ad.map (·.add (l * etv.size))) (hh - l) (m - l)) w := by
  obtain ⟨_, d, _, hu, htd, _⟩ := tvOf_spec ht
  rw [hd] at htd
  cases d <;> simp [tdOf] at htd
  subst htd
  have hb : ∀ (k : IntKind) (i y : Nat) (code : BoundsCode), i ≤ y → (Instr.sliceBound (.int k (i : Int)) y code).run P w = .ok i w := fun k i y code hiy => by
    simp [Instr.sliceBound, asIntOf, hiy]
  rcases hhi with ⟨rfl, hm0, rfl⟩ | ⟨kh, rfl⟩
  · rcases hmx with ⟨_, rfl⟩ | ⟨km, hmx⟩
    · subst hm0
      rcases hlo with ⟨rfl, rfl⟩ | ⟨kl, rfl⟩ <;> simp [Instr.sliceAt, run_underlying hu, Instr.slice, Instr.sliceBounds, hb, run_sizeOf' he, h1, h2, h3]
    · rw [hm0] at hmx; cases hmx
  · rcases hmx with ⟨rfl, rfl⟩ | ⟨km, rfl⟩ <;> rcases hlo with ⟨rfl, rfl⟩ | ⟨kl, rfl⟩ <;> simp [Instr.sliceAt, run_underlying hu, Instr.slice, Instr.sliceBounds, hb, run_sizeOf' he, h1, h2, h3]
theorem done_slice (h : SR w0 ok0 B β st a w) (hB : ∀ k, B = some k → ¬ ok0 k) (hG : GRep GE w0 ok0) {o : Oper} {t e : TypeId} {x : Operand} {lo hi mx : Option Operand} {tv etv : TV} {n l hh : Nat} {z : AV}
    (ho : o.op = .slice t x lo hi mx) (ht : tvOf P t = some tv) (hd : tv.d = .slice e) (he : tvOf P e = some etv) (hn : lenA (eval GE st x) = some n)
    (hhi : boundA GE st n hi = some hh) (hlo : boundA GE st 0 lo = some l)
    (hmx : mx = none ∨ ∃ q m, mx = some q ∧ hi ≠ none ∧ asNat (eval GE st q) = some m ∧ hh ≤ m ∧ m ≤ n) (hz : asliceA etv.size (eval GE st x) l hh = some z) : Done P w0 ok0 B o a w st z := by
  have hx := eval_sound h hB hG x
  have hsl : ∃ ad cap, a.eval x = .slice ad n cap ∧ n ≤ cap := by
    cases hxx : eval GE st x <;> rw [hxx] at hn hx <;> simp [lenA] at hn
    · subst hn; obtain ⟨ad, cap, h1, h2, _⟩ := hx; exact ⟨ad, cap, h1, h2⟩
    · subst hn; obtain ⟨ad, h1⟩ := hx; exact ⟨ad, 0, h1, Nat.le_refl _⟩
    · subst hn; obtain ⟨ad, cap, h1, h2, _⟩ := hx; exact ⟨ad, cap, h1, h2⟩
  obtain ⟨ad, cap, hxe, hcap⟩ := hsl
  rw [hxe] at hx
  have hle : l ≤ hh ∧ hh ≤ n := by
    cases hxx : eval GE st x <;> rw [hxx] at hn hz <;> simp [lenA] at hn <;> simp [asliceA] at hz
    · omega
    · omega
    · omega
  have hlo' : (lo.map a.eval = none ∧ l = 0) ∨ ∃ k, lo.map a.eval = some (.int k (l : Int)) := by
    cases lo with
    | none => simp [boundA] at hlo; exact .inl ⟨rfl, hlo.symm⟩
    | some q => obtain ⟨k, hk⟩ := asNat_spec hlo (eval_sound h hB hG q); exact .inr ⟨k, by simp [hk]⟩
  have hhi' : (hi = none ∧ hh = n) ∨ ∃ k, hi.map a.eval = some (.int k (hh : Int)) := by
    cases hi with
    | none => simp [boundA] at hhi; exact .inl ⟨rfl, hhi.symm⟩
    | some q => obtain ⟨k, hk⟩ := asNat_spec hhi (eval_sound h hB hG q); exact .inr ⟨k, by simp [hk]⟩
  have hfin : ∀ m, hh ≤ m → m ≤ cap → ((mx.map a.eval = none ∧ m = cap) ∨ ∃ k, mx.map a.eval = some (.int k (m : Int))) → (hi = none → mx = none) → Done P w0 ok0 B o a w st z := fun m hm1 hm2 hm3 hm4 => by
    refine Done.same (v := .slice (if m = l then ad else ad.map (·.add (l * etv.size))) (hh - l) (m - l)) h ?_ (asliceA_sound hx hn hz hm1 hm2)
    have := run_sliceAt (w := w) ht hd he ad n cap l hh m hle.1 hm1 hm2 (lo.map a.eval) (hi.map a.eval) (mx.map a.eval) hlo'
      (by rcases hhi' with ⟨h1, h2⟩ | h1
          · exact .inl ⟨by rw [h1]; rfl, by rw [hm4 h1]; rfl, h2⟩
          · exact .inr h1) hm3
    simp only [execOp, ho, hxe]
    rw [Sem.run_bind, this]
    rfl
  rcases hmx with rfl | ⟨q, m, rfl, hne, hq, hm1, hm2⟩
  · exact hfin cap (by omega) (Nat.le_refl _) (.inl ⟨rfl, rfl⟩) (fun _ => rfl)
  · obtain ⟨k, hk⟩ := asNat_spec hq (eval_sound h hB hG q)
    exact hfin m hm1 (by omega) (.inr ⟨k, by simp [hk]⟩) (fun hn => absurd hn hne)
end
end Go.Ax
set_option linter.unusedVariables false
set_option linter.unusedSimpArgs false
namespace Go.Ax
open Go.RowKit
section
variable {P : Program} {GE : Nat → Option (List AV)} {w0 : World} {ok0 : Nat → Prop} {B : Option Nat} {β : Nat → Nat} {st : St} {a : Act} {w : World}
theorem done_fieldAddr (h : SR w0 ok0 B β st a w) (hB : ∀ k, B = some k → ¬ ok0 k) (hG : GRep GE w0 ok0) {o : Oper} {s : TypeId} {p : Operand} {f : Nat} {tv : TV} {fs : List (Nat × TypeId)} {off size : Nat} {x : AV}
    (ho : o.op = .fieldAddr s p f) (hs : tvOf P s = some tv) (hd : tv.d = .struct fs) (hf : fieldPlaceA P fs f = some (off, size)) (hne : size ≠ 0)
    (hx : (∃ r ver o', eval GE st p = .ptr r ver o' ∧ x = .ptr r ver (o' + off) ∧ ∃ row, st.rows[r]? = some row ∧ row.ver = ver) ∨ (∃ cs, eval GE st p = .lptr cs ∧ x = .lptr (cs.drop off))) : Done P w0 ok0 B o a w st x := by
  have hp := eval_sound h hB hG p
  rcases hx with ⟨r, ver, o', he, rfl, row, hr, hv⟩ | ⟨cs, he, rfl⟩ <;> rw [he] at hp
  · obtain ⟨ad, ha, row', hr', hle, hh⟩ := hp
    rw [hr] at hr'
    cases hr'
    rw [hh hv] at ha
    refine Done.same h ?_ ⟨_, rfl, row, hr, hle, fun _ => rfl⟩
    simp only [execOp, ho, ha]
    rw [Sem.run_bind, run_fieldAt' hs hd hf hne]
    rfl
  · obtain ⟨b, o', ha, hm⟩ := hp
    refine Done.same h (v := .pointer (some ⟨b, o' + off, none⟩)) ?_ ?_
    · simp only [execOp, ho, ha]
      rw [Sem.run_bind, run_fieldAt' hs hd hf hne]
      rfl
    · refine ⟨b, o' + off, rfl, fun hne' => ?_⟩
      have hcs : cs ≠ [] := fun e => by subst e; simp at hne'
      exact ⟨(hm hcs).1, (hm hcs).2.drop off⟩
theorem part_sound {t : TypeId} {tv : TV} (ht : tvOf P t = some tv) {ok : Nat → Prop} {rows : List Row} {cs : List AV} {vs : List Value} (hm : VReps w ok rows β cs vs) {off : Nat} {x : AV} (hx : readAs tv (cs.drop off) = some x) :
    ∃ v, (part t vs.toArray off).run P w = .ok v w ∧ VRep w ok rows β x v := by
  unfold readAs at hx
  have hl := hm.length_eq
  by_cases hd : isAggD tv.d = true
  · simp only [hd, if_true] at hx
    split at hx
    · rename_i hle
      simp at hx hle
      subst hx
      refine ⟨.agg (vs.toArray.extract off (off + tv.size)), ?_, ⟨(vs.drop off).take tv.size, ?_, (hm.drop off).take tv.size⟩⟩
      · simp [part, run_isAgg ht, hd, run_sizeOf' ht]
      · congr 1
        simp
    · simp at hx
  · simp only [hd] at hx
    have hd' : isAggD tv.d = false := by simpa using hd
    simp at hx
    obtain ⟨v, hv, hr⟩ := hm.get hx
    exact ⟨v, by simp [part, run_isAgg ht, hd', hv], hr⟩
theorem done_field (h : SR w0 ok0 B β st a w) (hB : ∀ k, B = some k → ¬ ok0 k) (hG : GRep GE w0 ok0) {o : Oper} {s t : TypeId} {x : Operand} {f : Nat} {tv ftv : TV} {fs : List (Nat × TypeId)} {off : Nat} {cs : List AV} {z : AV}
    (ho : o.op = .field s x f) (hs : tvOf P s = some tv) (hd : tv.d = .struct fs) (hx : eval GE st x = .agg cs) (hf : fs[f]? = some (off, t)) (ht : tvOf P t = some ftv) (hz : readAs ftv (cs.drop off) = some z) : Done P w0 ok0 B o a w st z := by
  have hp := eval_sound h hB hG x
  rw [hx] at hp
  obtain ⟨vs, hv, hvs⟩ := hp
  obtain ⟨v, h1, h2⟩ := part_sound ht hvs hz
  obtain ⟨_, d, _, hu, htd, _⟩ := tvOf_spec hs
  rw [hd] at htd
  cases d <;> simp [tdOf] at htd
  rename_i fields
  subst htd
  simp only [List.getElem?_map] at hf
  cases hff : fields[f]? with
  | none => simp [hff] at hf
  | some fl =>
    simp [hff] at hf
    obtain ⟨rfl, rfl⟩ := hf
    refine Done.same h ?_ h2
    simp only [execOp, ho, hv, Instr.field]
    simp [run_underlying hu, hff, asAgg, h1]
theorem done_index (h : SR w0 ok0 B β st a w) (hB : ∀ k, B = some k → ¬ ok0 k) (hG : GRep GE w0 ok0) {o : Oper} {t e : TypeId} {x i : Operand} {tv etv : TV} {n j : Nat} {cs : List AV} {z : AV}
    (ho : o.op = .index t x i) (ht : tvOf P t = some tv) (hd : tv.d = .array n e) (he : tvOf P e = some etv) (hi : asNat (eval GE st i) = some j) (hx : eval GE st x = .agg cs) (hj : j < n) (hz : readAs etv (cs.drop (j * etv.size)) = some z) : Done P w0 ok0 B o a w st z := by
  have hp := eval_sound h hB hG x
  rw [hx] at hp
  obtain ⟨vs, hv, hvs⟩ := hp
  obtain ⟨v, h1, h2⟩ := part_sound he hvs hz
  obtain ⟨k, hk⟩ := asNat_spec hi (eval_sound h hB hG i)
  obtain ⟨_, d, _, hu, htd, _⟩ := tvOf_spec ht
  rw [hd] at htd
  cases d <;> simp [tdOf] at htd
  obtain ⟨rfl, rfl⟩ := htd
  refine Done.same h ?_ h2
  simp only [execOp, ho, hv, hk, Instr.index]
  simp [run_underlying hu, asIntOf, hj, run_sizeOf' he, h1]
theorem done_indexAddr (h : SR w0 ok0 B β st a w) (hB : ∀ k, B = some k → ¬ ok0 k) (hG : GRep GE w0 ok0) {o : Oper} {t e : TypeId} {x i : Operand} {tv etv : TV} {j : Nat} {z : AV}
    (ho : o.op = .indexAddr t x i) (ht : tvOf P t = some tv) (he : tvOf P e = some etv) (hi : asNat (eval GE st i) = some j)
    (hx : (tv.d = .slice e ∧ ∃ n cs, eval GE st x = .lst n cs ∧ j < n ∧ j * etv.size < cs.length ∧ z = .lptr (cs.drop (j * etv.size))) ∨
      (tv.d = .slice e ∧ ∃ r ver off n sz row, eval GE st x = .own r ver off n sz ∧ st.rows[r]? = some row ∧ row.ver = ver ∧ j < n ∧ sz = etv.size ∧ z = .ptr r ver (off + j * etv.size)) ∨
      (∃ n cs, tv.d = .array n e ∧ eval GE st x = .lptr cs ∧ j < n ∧ z = .lptr (cs.drop (j * etv.size)))) : Done P w0 ok0 B o a w st z := by
  have hp := eval_sound h hB hG x
  obtain ⟨k, hk⟩ := asNat_spec hi (eval_sound h hB hG i)
  rcases hx with ⟨hd, n, cs, hx, hj, hjl, rfl⟩ | ⟨hd, r, ver, off, n, sz, row, hx, hr, hv, hj, rfl, rfl⟩ | ⟨n, cs, hd, hx, hj, rfl⟩ <;> rw [hx] at hp
  · obtain ⟨ad, cap, hae, hc, hm⟩ := hp
    obtain ⟨b, of, rfl, hok, hmr⟩ := hm (fun e => by subst e; simp at hjl)
    have hr := run_indexAt_slice' (w := w) ht hd he b of n cap k (j : Int) (by omega) (by omega)
    refine Done.same h (v := .pointer (some ⟨b, of + j * etv.size, none⟩)) ?_ ⟨b, _, rfl, fun _ => ⟨hok, hmr.drop _⟩⟩
    simp only [execOp, ho, hk, hae]
    rw [Sem.run_bind, hr]
    simp
  · obtain ⟨ad, cap, hae, hc, row', hr', hle, hh⟩ := hp
    rw [hr] at hr'
    cases hr'
    obtain ⟨rfl, _⟩ := hh hv
    have hrr := run_indexAt_slice' (w := w) ht hd he (β r) off n cap k (j : Int) (by omega) (by omega)
    refine Done.same h (v := .pointer (some ⟨β r, off + j * etv.size, none⟩)) ?_ ⟨_, rfl, row, hr, hle, fun _ => rfl⟩
    simp only [execOp, ho, hk, hae]
    rw [Sem.run_bind, hrr]
    simp
  · obtain ⟨b, of, hae, hm⟩ := hp
    have hr := run_indexAt_array' (w := w) ht hd he b of k (j : Int) (by omega) (by omega)
    refine Done.same h (v := .pointer (some ⟨b, of + j * etv.size, none⟩)) ?_ ⟨b, _, rfl, fun hne => ?_⟩
    · simp only [execOp, ho, hk, hae]
      rw [Sem.run_bind, hr]
      simp
    · have hcs : cs ≠ [] := fun e => by subst e; simp at hne
      exact ⟨(hm hcs).1, (hm hcs).2.drop _⟩
theorem done_extract (h : SR w0 ok0 B β st a w) (hB : ∀ k, B = some k → ¬ ok0 k) (hG : GRep GE w0 ok0) {o : Oper} {x : Operand} {i : Nat} {vs : List AV} {z : AV}
    (ho : o.op = .extract x i) (hx : eval GE st x = .tup vs) (hz : vs[i]? = some z) : Done P w0 ok0 B o a w st z := by
  have hp := eval_sound h hB hG x
  rw [hx] at hp
  obtain ⟨us, hv, hus⟩ := hp
  obtain ⟨v, h1, h2⟩ := hus.get hz
  refine Done.same h ?_ h2
  simp [execOp, ho, hv, Instr.extract, h1]
theorem lenA_spec {x : AV} {v : Value} {n : Nat} {ok : Nat → Prop} {rows : List Row} (h : lenA x = some n) (hx : VRep w ok rows β x v) : ∃ ad cap, v = .slice ad n cap := by
  cases x <;> simp [lenA] at h
  · subst h; obtain ⟨ad, cap, h1, h2, _⟩ := hx; exact ⟨ad, cap, h1⟩
  · subst h; obtain ⟨ad, h1⟩ := hx; exact ⟨ad, 0, h1⟩
  · subst h; obtain ⟨ad, cap, h1, h2, _⟩ := hx; exact ⟨ad, cap, h1⟩
theorem done_len (h : SR w0 ok0 B β st a w) (hB : ∀ k, B = some k → ¬ ok0 k) (hG : GRep GE w0 ok0) {o : Oper} {c : Call} {x : Operand} {t e : TypeId} {tv : TV} {n : Nat}
    (ho : o.op = .call c) (hc : c.callee = .builtin .len) (hx : c.args.toList = [x]) (hts : c.argTypes.toList = [t]) (ht : tvOf P t = some tv) (hd : tv.d = .slice e) (hn : lenA (eval GE st x) = some n) :
    Done P w0 ok0 B o a w st (.int .i64 n) := by
  obtain ⟨ad, cap, hv⟩ := lenA_spec hn (eval_sound h hB hG x)
  obtain ⟨_, d, _, hu, htd, _⟩ := tvOf_spec ht
  rw [hd] at htd
  cases d <;> simp [tdOf] at htd
  have ha : c.args = #[x] := by rw [← Array.toArray_toList (xs := c.args), hx]
  have hT : c.argTypes = #[t] := by rw [← Array.toArray_toList (xs := c.argTypes), hts]
  refine Done.same h (v := .int .i64 n) ?_ rfl
  simp [execOp, ho, resolve, hc, ha, hT, invoke, builtin, Builtin.len_, run_underlying hu, hv, goInt]
theorem done_max (h : SR w0 ok0 B β st a w) (hB : ∀ k, B = some k → ¬ ok0 k) (hG : GRep GE w0 ok0) {o : Oper} {c : Call} {x : Operand} {xs : List Operand} {z : AV}
    (ho : o.op = .call c) (hc : c.callee = .builtin .max) (hx : c.args.toList = x :: xs) (hz : foldMM (fun x y => max x y) (eval GE st x) (xs.map (eval GE st)) = some z) : Done P w0 ok0 B o a w st z := by
  obtain ⟨u, h1, h2⟩ := foldMM_sound (P := P) Builtin.max2 (fun x y => max x y) (fun k x k' y => by simp only [Builtin.max2, Sem.run_pure]; congr 2; omega) _ _ _ z _ (eval_sound h hB hG x) (args_sound h hB hG xs) hz
  have ha : c.args = (x :: xs).toArray := by rw [← Array.toArray_toList (xs := c.args), hx]
  refine Done.same h (v := u) ?_ h2
  simp [execOp, ho, resolve, hc, ha, invoke, builtin, Builtin.max_, h1]
theorem done_min (h : SR w0 ok0 B β st a w) (hB : ∀ k, B = some k → ¬ ok0 k) (hG : GRep GE w0 ok0) {o : Oper} {c : Call} {x : Operand} {xs : List Operand} {z : AV}
    (ho : o.op = .call c) (hc : c.callee = .builtin .min) (hx : c.args.toList = x :: xs) (hz : foldMM (fun x y => min x y) (eval GE st x) (xs.map (eval GE st)) = some z) : Done P w0 ok0 B o a w st z := by
  obtain ⟨u, h1, h2⟩ := foldMM_sound (P := P) Builtin.min2 (fun x y => min x y) (fun k x k' y => by simp only [Builtin.min2, Sem.run_pure]; congr 2; omega) _ _ _ z _ (eval_sound h hB hG x) (args_sound h hB hG xs) hz
  have ha : c.args = (x :: xs).toArray := by rw [← Array.toArray_toList (xs := c.args), hx]
  refine Done.same h (v := u) ?_ h2
  simp [execOp, ho, resolve, hc, ha, invoke, builtin, Builtin.min_, h1]
theorem done_append (h : SR w0 ok0 B β st a w) (hB : ∀ k, B = some k → ¬ ok0 k) (hG : GRep GE w0 ok0) {o : Oper} {c : Call} {s x : Operand} {t e : TypeId} {tv etv : TV} {st' : St} {z : AV}
    (ho : o.op = .call c) (hc : c.callee = .builtin .append) (hx : c.args.toList = [s, x]) (hts : c.argTypes.toList = [t, t]) (ht : tvOf P t = some tv) (hd : tv.d = .slice e) (he : tvOf P e = some etv)
    (hzs : etv.z.cells.size = etv.size) (hz : appendA etv st (eval GE st s) (eval GE st x) = some (st', z)) : Done P w0 ok0 B o a w st' z := by
  have ha : c.args = #[s, x] := by rw [← Array.toArray_toList (xs := c.args), hx]
  have hT : c.argTypes = #[t, t] := by rw [← Array.toArray_toList (xs := c.argTypes), hts]
  have hs := eval_sound h hB hG s
  unfold appendA at hz
  cases hel : elems st.rows (eval GE st x) with
  | none => simp [hel] at hz
  | some mc =>
    obtain ⟨m, cs⟩ := mc
    simp only [hel] at hz
    split at hz
    · rename_i hcond
      obtain ⟨hlen, hpos, hone⟩ := hcond
      obtain ⟨ad, cap, hxv, hmc, hrd⟩ := elems_sound h (eval_sound h hB hG x) hel
      obtain ⟨_, d, _, hu, htd, _⟩ := tvOf_spec ht
      rw [hd] at htd
      cases d <;> simp [tdOf] at htd
      rename_i e'
      subst htd
      obtain ⟨i, de, hi, hue, _, hsz, hby, hzz⟩ := tvOf_spec he
      have hexec : ∀ (v : Value) (w' : World), (Builtin.append_ #[t, t] o.type #[a.eval s, a.eval x]).run P w = .ok v w' → (execOp a.eval o).run P w = .ok (.value v) w' := fun v w' hr => by
        simp [execOp, ho, resolve, hc, ha, hT, invoke, builtin, hr]
      by_cases hm0 : m = 0
      · -- nothing is appended
        subst hm0
        have hcs : cs = [] := List.eq_nil_of_length_eq_zero (by simpa using hlen)
        subst hcs
        have hfc : (Builtin.firstCells i.size 0 (.slice ad 0 cap)).run P w = .ok #[] w := by
          cases ad <;> simp [Builtin.firstCells, loadCells, loadCellsFrom]
        cases hss : eval GE st s <;> rw [hss] at hz hs <;> simp at hz
        case emp =>
          obtain ⟨rfl, rfl⟩ := hz
          obtain ⟨sa, hse⟩ := hs
          refine Done.same h (v := .slice sa 0 0) (hexec _ _ ?_) ⟨sa, rfl⟩
          rw [hse, hxv]
          cases sa <;> simp [Builtin.append_, run_underlying hu, sizeOf, typeInfo, hi, Builtin.lenOf, hfc, storeCells]
        case own r ver off n sz =>
          cases hr : st.rows[r]? with
          | none => simp [hr] at hz
          | some row =>
            simp only [hr] at hz
            split at hz
            · rename_i hcond
              obtain ⟨hv, hhot, rfl, rfl, hrl, hbytes, h63⟩ := hcond
              simp at hz
              obtain ⟨rfl, rfl⟩ := hz
              obtain ⟨sa, scap, hse, hnc, row', hr', hle, hh⟩ := hs
              rw [hr] at hr'
              cases hr'
              obtain ⟨rfl, c0, e0, hc0, hcsz⟩ := hh hv
              obtain ⟨⟨c1, e1, hc1⟩, hmr, hBr⟩ := h.row r row hr
              rw [hc0] at hc1
              cases hc1
              obtain ⟨us, hus, hcells⟩ := hmr.vals
              have hrun : (Builtin.append_ #[t, t] o.type #[a.eval s, a.eval x]).run P w = .ok (.slice (some ⟨β r, 0, none⟩) n scap) w := by
                rw [hse, hxv]
                simp [Builtin.append_, run_underlying hu, sizeOf, typeInfo, hi, Builtin.lenOf, hfc, storeCells, hnc]
              obtain ⟨hS, hmono⟩ := h.renew (w' := w) (g := β r) (ver := ver + 1) (c' := c0) (e := e0) (cells := row.cells ++ []) (vs := us) hr hhot (by omega) (.inl rfl) hc0 (fun hx => by omega)
                (fun _ _ _ => rfl) rfl rfl rfl (Nat.le_refl _) (by simpa using hus) (fun j v hv' => by
                  have := hcells j v hv'
                  rw [cell_of_row _ _ _ c0 e0 (0, 0) hc0, Nat.zero_add] at this
                  exact this)
              refine ⟨_, _, _, _, hexec _ _ hrun, .inl rfl, by simpa using hS, ?_⟩
              refine ⟨_, scap, rfl, hnc, ⟨ver + 1, true, row.cells⟩, by simp [(List.getElem?_eq_some_iff.1 hr).1], Nat.le_refl _, fun _ => ⟨by simp, c0, e0, by simpa using hc0, by simpa using hcsz⟩⟩
            · simp at hz
      · -- something is appended
        have hcsne : cs ≠ [] := fun e => by
          subst e
          simp at hlen
          have := Nat.mul_ne_zero hm0 (show etv.size ≠ 0 by omega)
          omega
        obtain ⟨b, of, rfl, hmx⟩ := hrd hcsne
        obtain ⟨news, hnews, hncells⟩ := hmx.vals
        have hnl : news.length = m * i.size := by rw [← hnews.length_eq, hlen, hsz]
        have hnc2 : ∀ (j : Nat) (u : Value), news[j]? = some u → w.cell? ((⟨b, of, none⟩ : Addr).add j) = some u := fun j u hj => by rw [Addr.add_lit]; exact hncells j u hj
        have h1 := cells1_sound hnews hone
        cases hss : eval GE st s <;> rw [hss] at hz hs <;> simp at hz
        case emp =>
          simp only [hm0, if_false] at hz
          split at hz
          · rename_i hbd
            simp at hz
            obtain ⟨rfl, rfl⟩ := hz
            obtain ⟨sa, hse⟩ := hs
            have hbig : m * i.bytes ≤ 281474976710656 := by rw [hby]; omega
            have hfit := growslice_fits (need := m) (old := 0) (bytes := i.bytes) (by omega) (by rw [hby]; exact hbd.1)
            have hrun : (Builtin.append_ #[t, t] o.type #[a.eval s, a.eval x]).run P w = .ok (.slice (some ⟨w.heap.size, 0, none⟩) m (grownCap w m 0 e')) (w.drew.alloc (.cells (news.toArray ++ Builtin.zeroCells etv.z.cells (grownCap w m 0 e' - m)) e')) := by
              rw [hse, hxv]
              cases sa with
              | none => exact run_append_nil w t o.type e' i etv.z hu hi hzz _ m cap news hnl hnc2 (by omega) (by omega) hbig
              | some sad =>
                have := run_append_grow (P := P) w t o.type e' i etv.z hu hi hzz sad 0 0 [] (by simp) (by simp) ⟨b, of, none⟩ m cap news hnl hnc2 (by omega) (by omega) (by simpa using hfit)
                simpa using this
            refine done_push h (e := e') (c := news.toArray ++ Builtin.zeroCells etv.z.cells (grownCap w m 0 e' - m)) (vs := news) (w1 := w.drew) hnews (fun j v hj => ?_) (.inr rfl) (hexec _ _ hrun)
              (.inr ⟨m, etv.size, grownCap w m 0 e', rfl, rfl, grownCap_ge w m 0 e', ?_⟩)
            · have hjl := (List.getElem?_eq_some_iff.1 hj).1
              rw [Array.getElem?_append_left (by simpa using hjl)]
              simpa using hj
            · have hge := grownCap_ge w m 0 e'
              simp only [Array.size_append, List.size_toArray, size_zeroCells, hzs, hnl, hsz, ← Nat.add_mul]
              exact Nat.mul_le_mul_right _ (by omega)
          · simp at hz
        case own r ver off n sz =>
          cases hr : st.rows[r]? with
          | none => simp [hr] at hz
          | some row =>
            simp only [hr] at hz
            split at hz
            · rename_i hcond
              obtain ⟨hv, hhot, rfl, rfl, hrl, hbytes, h63⟩ := hcond
              simp at hz
              obtain ⟨rfl, rfl⟩ := hz
              obtain ⟨sa, scap, hse, hnc, row', hr', hle, hh⟩ := hs
              rw [hr] at hr'
              cases hr'
              obtain ⟨rfl, c0, e0, hc0, hcsz⟩ := hh hv
              obtain ⟨⟨c1, e1, hc1⟩, hmr, hBr⟩ := h.row r row hr
              rw [hc0] at hc1
              cases hc1
              obtain ⟨us, hus, hcells⟩ := hmr.vals
              have hul : us.length = n * i.size := by rw [← hus.length_eq, hrl, hsz]
              have hget : ∀ (j : Nat) (v : Value), us[j]? = some v → c0[j]? = some v := fun j v hv' => by
                have := hcells j v hv'
                rw [cell_of_row _ _ _ c0 e0 (0, 0) hc0, Nat.zero_add] at this
                exact this
              by_cases hroom : n + m ≤ scap
              · have hfit : n * i.size + news.length ≤ c0.size := by
                  rw [hnl, ← Nat.add_mul, hsz]
                  have := Nat.mul_le_mul_right etv.size hroom
                  omega
                have hf := run_firstCells_some (P := P) w i.size m ⟨b, of, none⟩ m cap news hnl hnc2
                have hst := run_storeCells_at P (β r) (n * i.size) e0 news 0 c0 w hc0 (by simpa using hfit) h1
                simp only [Nat.add_zero] at hst
                have hrun : (Builtin.append_ #[t, t] o.type #[a.eval s, a.eval x]).run P w = .ok (.slice (some ⟨β r, 0, none⟩) (n + m) scap) (w.setRow (β r) (c0.toList.take (n * i.size) ++ news ++ c0.toList.drop (n * i.size + news.length)).toArray) := by
                  rw [hse, hxv]
                  simp [Builtin.append_, run_underlying hu, sizeOf, typeInfo, hi, Builtin.lenOf, hroom, hf, Addr.add_lit, hst]
                have htk : c0.toList.take (n * i.size) = us := by
                  apply List.ext_getElem?
                  intro j
                  rw [List.getElem?_take, ← hul]
                  split
                  · rename_i hj
                    rw [List.getElem?_eq_getElem hj]
                    simpa using hget j us[j] (List.getElem?_eq_getElem hj)
                  · rw [List.getElem?_eq_none (by omega)]
                obtain ⟨hS, hmono⟩ := h.renew (w' := w.setRow (β r) (c0.toList.take (n * i.size) ++ news ++ c0.toList.drop (n * i.size + news.length)).toArray) (g := β r) (ver := ver + 1) (e := e0)
                  (cells := row.cells ++ cs) (vs := us ++ news) hr hhot (by omega) (.inl rfl) (setRow_heap w (β r) c0 _ e0 (0, 0) hc0) (fun hx => by omega) (fun k _ hk => setRow_other w (β r) k _ hk) rfl rfl rfl (by simp)
                  (hus.append hnews) (fun j v hj => by
                    rw [htk]
                    simp only [List.getElem?_toArray]
                    rw [List.getElem?_append_left (List.getElem?_eq_some_iff.1 hj).1]
                    exact hj)
                refine ⟨_, _, _, _, hexec _ _ hrun, .inl rfl, hS, ?_⟩
                refine ⟨_, scap, rfl, hroom, ⟨ver + 1, true, row.cells ++ cs⟩, by simp [(List.getElem?_eq_some_iff.1 hr).1], Nat.le_refl _, fun _ => ⟨by simp, _, e0, by simpa using setRow_heap w (β r) c0 _ e0 (0, 0) hc0, ?_⟩⟩
                simp only [List.size_toArray, List.length_append, List.length_take, List.length_drop, Array.length_toList]
                omega
              · have hge := grownCap_ge w (n + m) scap e'
                have hrun := run_append_grow (P := P) w t o.type e' i etv.z hu hi hzz ⟨β r, 0, none⟩ n scap us hul (fun j v hj => by rw [Addr.add_lit]; exact hcells j v hj) ⟨b, of, none⟩ m cap news hnl hnc2 (by omega) (by omega)
                  (growslice_fits (by omega) (by rw [hby]; exact hbytes))
                rw [← hse, ← hxv] at hrun
                obtain ⟨hS, hmono⟩ := h.renew (w' := w.drew.alloc (.cells (us.toArray ++ news.toArray ++ Builtin.zeroCells etv.z.cells (grownCap w (n + m) scap e' - (n + m))) e')) (g := w.heap.size) (ver := ver + 1) (e := e')
                  (cells := row.cells ++ cs) (vs := us ++ news) hr hhot (by omega) (.inr (Nat.le_refl _)) (heap_alloc_new w.drew _) (fun hx => by omega) (fun k hk _ => Below.heap_alloc w.drew _ k hk) rfl rfl rfl (by simp)
                  (hus.append hnews) (fun j v hj => by
                    rw [Array.getElem?_append_left (by have := (List.getElem?_eq_some_iff.1 hj).1; simpa using this)]
                    simpa using hj)
                refine ⟨_, _, _, _, hexec _ _ hrun, .inl rfl, hS, ?_⟩
                refine ⟨_, grownCap w (n + m) scap e', rfl, hge, ⟨ver + 1, true, row.cells ++ cs⟩, by simp [(List.getElem?_eq_some_iff.1 hr).1], Nat.le_refl _, fun _ => ⟨by simp, _, e', by simpa using heap_alloc_new w.drew _, ?_⟩⟩
                simp only [Array.size_append, List.size_toArray, List.length_append, size_zeroCells, hzs, hnl, hul, hsz]
                rw [Nat.zero_add, ← Nat.add_mul, ← Nat.add_mul]
                exact Nat.mul_le_mul_right _ (by omega)
            · simp at hz
    · simp at hz
end
end Go.Ax
set_option linter.unusedVariables false
set_option linter.unusedSimpArgs false
namespace Go.Ax
open Go.RowKit
section
variable {P : Program} {GE : Nat → Option (List AV)} {w0 : World} {ok0 : Nat → Prop} {B : Option Nat} {β : Nat → Nat} {st : St} {a : Act} {w : World}
theorem list_one {α β : Type} {l : List α} {f : α → β} {x : β} (h : l.map f = [x]) : ∃ y, l = [y] ∧ f y = x := by
  cases l with
  | nil => simp at h
  | cons y ys => cases ys with
    | nil => simp at h; exact ⟨y, rfl, h⟩
    | cons => simp at h
theorem list_two {α β : Type} {l : List α} {f : α → β} {x y : β} (h : l.map f = [x, y]) : ∃ u v, l = [u, v] ∧ f u = x ∧ f v = y := by
  cases l with
  | nil => simp at h
  | cons u us => cases us with
    | nil => simp at h
    | cons v vs => cases vs with
      | nil => simp at h; exact ⟨u, v, rfl, h⟩
      | cons => simp at h
theorem aexec_sound (h : SR w0 ok0 B β st a w) (hB : ∀ k, B = some k → ¬ ok0 k) (hG : GRep GE w0 ok0) {o : Oper} {st' : St} {x : AV} (hx : aexec P GE st o.op = some (st', x)) : Done P w0 ok0 B o a w st' x := by
  cases hop : o.op <;> rw [hop] at hx <;> simp only [aexec] at hx <;> try (cases hx; done)
  case move y => cases hx; exact done_move h hB hG (.inl hop)
  case assign y => cases hx; exact done_move h hB hG (.inr hop)
  case pick c y z =>
    split at hx
    · rename_i t ht; cases hx; exact done_pick h hB hG hop ht
    · cases hx
  case alloc e =>
    split at hx
    · rename_i tv ht; cases hx; exact done_alloc h hop ht
    · cases hx
  case box e y =>
    split at hx
    · rename_i vs hv; cases hx; exact done_box h hB hG hop hv
    · cases hx
  case build t parts =>
    split at hx
    · rename_i tv ht
      split at hx
      · rename_i fs hd
        split at hx
        · rename_i places hp
          simp only [Option.map_eq_some_iff] at hx
          obtain ⟨cs, hf, hx⟩ := hx
          cases hx
          exact done_build h hB hG hop ht hd hp hf
        · cases hx
      · cases hx
    · cases hx
  case buildSlice t len parts =>
    split at hx
    · rename_i tv ht
      split at hx
      · rename_i e hd
        split at hx
        · rename_i etv he
          split at hx
          · rename_i hc
            simp only [Option.map_eq_some_iff] at hx
            obtain ⟨cs, hf, hx⟩ := hx
            cases hx
            exact done_buildSlice h hB hG hop ht hd he hc.1 hc.2.1 hc.2.2 hf
          · cases hx
        · cases hx
      · cases hx
    · cases hx
  case load t p =>
    split at hx
    · rename_i tv cs ht hc
      simp only [Option.map_eq_some_iff] at hx
      obtain ⟨v, hv, hx⟩ := hx
      cases hx
      exact done_load h hB hG hop ht hc hv
    · cases hx
  case store t p y =>
    split at hx
    · rename_i tv r ver off vs ht hp hv
      split at hx
      · rename_i row hr
        split at hx
        · rename_i hc
          cases hx
          exact done_store h hB hG hop ht hp hv hr hc.1 hc.2.1 hc.2.2.1 hc.2.2.2.1 hc.2.2.2.2
        · cases hx
      · cases hx
    · cases hx
  case binOp op t y z u =>
    split at hx
    · rename_i tv ht
      simp only [Option.map_eq_some_iff] at hx
      obtain ⟨v, hv, hx⟩ := hx
      cases hx
      exact done_bin h hB hG hop (fun tv' h' => by rw [ht] at h'; cases h'; rfl) (fun h' => by rw [ht] at h'; cases h') hv
    · rename_i ht
      simp only [Option.map_eq_some_iff] at hx
      obtain ⟨v, hv, hx⟩ := hx
      cases hx
      exact done_bin h hB hG hop (fun tv' h' => by rw [ht] at h'; cases h') (fun _ => rfl) hv
  case unOp op t y =>
    simp only [Option.map_eq_some_iff] at hx
    obtain ⟨v, hv, hx⟩ := hx
    cases hx
    exact done_un h hB hG hop hv
  case convert s t y =>
    split at hx
    · rename_i sv tv k n hs ht hy
      split at hx
      · rename_i k' hd; cases hx; exact done_convert h hB hG hop hs ht hy hd
      · cases hx
    · cases hx
  case makeSlice t l c =>
    split at hx
    · rename_i tv k n k' m ht hl hc
      split at hx
      · rename_i e hd
        split at hx
        · rename_i etv he
          split at hx
          · rename_i hcond
            obtain ⟨h0, rfl, h1, h2, h3, h4⟩ := hcond
            cases hx
            exact done_make h hB hG hop ht hd he hl hc h0 h1 h2 h3 h4
          · cases hx
        · cases hx
      · cases hx
    · cases hx
  case slice t y lo hi mx =>
    split at hx
    · rename_i tv n ht hn
      split at hx
      · rename_i e hd
        split at hx
        · rename_i etv he
          split at hx
          · rename_i hh l hhi hlo
            split at hx
            · simp only [Option.map_eq_some_iff] at hx
              obtain ⟨v, hv, hx⟩ := hx
              cases hx
              exact done_slice h hB hG hop ht hd he hn hhi hlo (.inl rfl) hv
            · rename_i q q'
              split at hx
              · rename_i m hm
                split at hx
                · rename_i hc
                  simp only [Option.map_eq_some_iff] at hx
                  obtain ⟨v, hv, hx⟩ := hx
                  cases hx
                  exact done_slice h hB hG hop ht hd he hn hhi hlo (.inr ⟨q, m, rfl, by simp, hm, hc.1, hc.2⟩) hv
                · cases hx
              · cases hx
            · cases hx
          · cases hx
        · cases hx
      · cases hx
    · cases hx
  case fieldAddr s p f =>
    split at hx
    · rename_i tv hs
      split at hx
      · rename_i fs hd
        split at hx
        · rename_i off size hf
          split at hx
          · rename_i hne
            split at hx
            · rename_i r ver o' hp
              split at hx
              · rename_i row hr
                split at hx
                · rename_i hv
                  cases hx
                  exact done_fieldAddr h hB hG hop hs hd hf hne (.inl ⟨r, ver, o', hp, rfl, row, hr, hv⟩)
                · cases hx
              · cases hx
            · rename_i cs hp
              cases hx
              exact done_fieldAddr h hB hG hop hs hd hf hne (.inr ⟨cs, hp, rfl⟩)
            · cases hx
          · cases hx
        · cases hx
      · cases hx
    · cases hx
  case field s y f =>
    split at hx
    · rename_i tv hs
      split at hx
      · rename_i fs cs hd hy
        split at hx
        · rename_i off t hf
          split at hx
          · rename_i ftv ht
            simp only [Option.map_eq_some_iff] at hx
            obtain ⟨v, hv, hx⟩ := hx
            cases hx
            exact done_field h hB hG hop hs hd hy hf ht hv
          · cases hx
        · cases hx
      · cases hx
    · cases hx
  case indexAddr t y i =>
    split at hx
    · rename_i tv j ht hi
      split at hx
      · rename_i e hd
        split at hx
        · rename_i etv he
          split at hx
          · rename_i n cs hy
            split at hx
            · rename_i hc; cases hx; exact done_indexAddr h hB hG hop ht he hi (.inl ⟨hd, n, cs, hy, hc.1, hc.2, rfl⟩)
            · cases hx
          · rename_i r ver off n sz hy
            split at hx
            · rename_i row hr
              split at hx
              · rename_i hc
                cases hx
                exact done_indexAddr h hB hG hop ht he hi (.inr (.inl ⟨hd, r, ver, off, n, sz, row, hy, hr, hc.1, hc.2.1, hc.2.2, rfl⟩))
              · cases hx
            · cases hx
          · cases hx
        · cases hx
      · rename_i n e hd
        split at hx
        · rename_i etv he
          split at hx
          · rename_i cs hy
            split at hx
            · rename_i hc; cases hx; exact done_indexAddr h hB hG hop ht he hi (.inr (.inr ⟨n, cs, hd, hy, hc, rfl⟩))
            · cases hx
          · cases hx
        · cases hx
      · cases hx
    · cases hx
  case index t y i =>
    split at hx
    · rename_i tv j cs ht hi hy
      split at hx
      · rename_i n e hd
        split at hx
        · rename_i etv he
          split at hx
          · rename_i hj
            simp only [Option.map_eq_some_iff] at hx
            obtain ⟨v, hv, hx⟩ := hx
            cases hx
            exact done_index h hB hG hop ht hd he hi hy hj hv
          · cases hx
        · cases hx
      · cases hx
    · cases hx
  case extract y i =>
    split at hx
    · rename_i vs hy
      simp only [Option.map_eq_some_iff] at hx
      obtain ⟨v, hv, hx⟩ := hx
      cases hx
      exact done_extract h hB hG hop hy hv
    · cases hx
  case call c =>
    split at hx
    · rename_i hc
      split at hx
      · rename_i y t hargs hts
        obtain ⟨y', hy1, rfl⟩ := list_one hargs
        split at hx
        · rename_i tv n ht hn
          split at hx
          · rename_i e hd; cases hx; exact done_len h hB hG hop hc hy1 hts ht hd hn
          · cases hx
        · cases hx
      · cases hx
    · rename_i hc
      split at hx
      · rename_i y ys hargs
        cases hl : c.args.toList with
        | nil => rw [hl] at hargs; simp at hargs
        | cons z zs =>
          rw [hl] at hargs
          simp at hargs
          obtain ⟨rfl, rfl⟩ := hargs
          simp only [Option.map_eq_some_iff] at hx
          obtain ⟨v, hv, hx⟩ := hx
          cases hx
          exact done_max h hB hG hop hc hl hv
      · cases hx
    · rename_i hc
      split at hx
      · rename_i y ys hargs
        cases hl : c.args.toList with
        | nil => rw [hl] at hargs; simp at hargs
        | cons z zs =>
          rw [hl] at hargs
          simp at hargs
          obtain ⟨rfl, rfl⟩ := hargs
          simp only [Option.map_eq_some_iff] at hx
          obtain ⟨v, hv, hx⟩ := hx
          cases hx
          exact done_min h hB hG hop hc hl hv
      · cases hx
    · rename_i hc
      split at hx
      · rename_i s y t u hargs hts
        obtain ⟨s', y', hl, rfl, rfl⟩ := list_two hargs
        split at hx
        · rename_i htu
          subst htu
          split at hx
          · rename_i tv ht
            split at hx
            · rename_i e hd
              split at hx
              · rename_i etv he
                split at hx
                · rename_i hz; exact done_append h hB hG hop hc hl hts ht hd he hz hx
                · cases hx
              · cases hx
            · cases hx
          · cases hx
        · cases hx
      · cases hx
    · cases hx
end
end Go.Ax
set_option linter.unusedVariables false
set_option linter.unusedSimpArgs false
namespace Go.Ax
open Go.RowKit
mutual
def pureA : AV → Bool
  | .own .. => false
  | .ptr .. => false
  | .agg cs => pureAs cs
  | .tup cs => pureAs cs
  | .lst _ cs => pureAs cs
  | .lptr cs => pureAs cs
  | _ => true
def pureAs : List AV → Bool
  | [] => true
  | c :: cs => pureA c && pureAs cs
end
mutual
def noMem : AV → Bool
  | .int .. => true
  | .bool _ => true
  | .lit _ => true
  | .emp => true
  | .any => true
  | .agg cs => noMems cs
  | .tup cs => noMems cs
  | .lst _ [] => true
  | _ => false
def noMems : List AV → Bool
  | [] => true
  | c :: cs => noMem c && noMems cs
end
mutual
/-- A value as it is handed over: what lies in a row of the frame's own becomes a list. -/
def fz (strict : Bool) (rows : List Row) : AV → Option AV
  | .own r ver off n sz => match rows[r]? with
    | some row => if row.ver = ver ∧ (strict = true → row.hot = false) ∧ off + n * sz ≤ row.cells.length ∧ pureAs row.cells = true then some (.lst n ((row.cells.drop off).take (n * sz))) else none
    | none => none
  | .ptr .. => none
  | .agg cs => (fzs strict rows cs).map .agg
  | .tup cs => (fzs strict rows cs).map .tup
  | .lst n cs => if pureAs cs then some (.lst n cs) else none
  | .lptr cs => if pureAs cs then some (.lptr cs) else none
  | x => some x
def fzs (strict : Bool) (rows : List Row) : List AV → Option (List AV)
  | [] => some []
  | c :: cs => match fz strict rows c, fzs strict rows cs with
    | some x, some xs => some (x :: xs)
    | _, _ => none
end
section
variable {w : World} {ok ok' : Nat → Prop} {rows rows' : List Row} {β β' : Nat → Nat}
mutual
theorem VRep.pure (hok : ∀ k, ok k → ok' k) : ∀ (x : AV) (v : Value), pureA x = true → VRep w ok rows β x v → VRep w ok' rows' β' x v
  | .int _ _, _, _, h => h
  | .bool _, _, _, h => h
  | .lit _, _, _, h => h
  | .emp, _, _, h => h
  | .any, _, _, _ => trivial
  | .agg cs, _, hp, ⟨vs, hv, h⟩ => ⟨vs, hv, VReps.pure hok cs vs (by simpa [pureA] using hp) h⟩
  | .tup cs, _, hp, ⟨vs, hv, h⟩ => ⟨vs, hv, VReps.pure hok cs vs (by simpa [pureA] using hp) h⟩
  | .lst n cs, _, hp, ⟨a, cap, hv, hc, h⟩ => ⟨a, cap, hv, hc, fun hne => by
      obtain ⟨b, o, h1, h2, h3⟩ := h hne
      exact ⟨b, o, h1, hok b h2, MReps.pure hok cs b o (by simpa [pureA] using hp) h3⟩⟩
  | .lptr cs, _, hp, ⟨b, o, hv, h⟩ => ⟨b, o, hv, fun hne => ⟨hok b (h hne).1, MReps.pure hok cs b o (by simpa [pureA] using hp) (h hne).2⟩⟩
  | .own .., _, hp, _ => by simp [pureA] at hp
  | .ptr .., _, hp, _ => by simp [pureA] at hp
theorem VReps.pure (hok : ∀ k, ok k → ok' k) : ∀ (xs : List AV) (vs : List Value), pureAs xs = true → VReps w ok rows β xs vs → VReps w ok' rows' β' xs vs
  | [], _, _, h => h
  | x :: xs, _, hp, ⟨v, vs', he, h, hs⟩ => by
    simp only [pureAs, Bool.and_eq_true] at hp
    exact ⟨v, vs', he, VRep.pure hok x v hp.1 h, VReps.pure hok xs vs' hp.2 hs⟩
theorem MReps.pure (hok : ∀ k, ok k → ok' k) : ∀ (xs : List AV) (b o : Nat), pureAs xs = true → MReps w ok rows β xs b o → MReps w ok' rows' β' xs b o
  | [], _, _, _, _ => trivial
  | x :: xs, b, o, hp, ⟨⟨u, hu, h⟩, hs⟩ => by
    simp only [pureAs, Bool.and_eq_true] at hp
    exact ⟨⟨u, hu, VRep.pure hok x u hp.1 h⟩, MReps.pure hok xs b (o + 1) hp.2 hs⟩
end
mutual
theorem VRep.noMem {w' : World} : ∀ (x : AV) (v : Value), noMem x = true → VRep w ok rows β x v → VRep w' ok' rows' β' x v
  | .int _ _, _, _, h => h
  | .bool _, _, _, h => h
  | .lit _, _, _, h => h
  | .emp, _, _, h => h
  | .any, _, _, _ => trivial
  | .agg cs, _, hp, ⟨vs, hv, h⟩ => ⟨vs, hv, VReps.noMem cs vs (by simpa [Ax.noMem] using hp) h⟩
  | .tup cs, _, hp, ⟨vs, hv, h⟩ => ⟨vs, hv, VReps.noMem cs vs (by simpa [Ax.noMem] using hp) h⟩
  | .lst n [], _, hp, ⟨a, cap, hv, hc, h⟩ => ⟨a, cap, hv, hc, fun hne => absurd rfl hne⟩
  | .lst n (_ :: _), _, hp, _ => by simp [Ax.noMem] at hp
  | .lptr cs, _, hp, _ => by simp [Ax.noMem] at hp
  | .own .., _, hp, _ => by simp [Ax.noMem] at hp
  | .ptr .., _, hp, _ => by simp [Ax.noMem] at hp
theorem VReps.noMem {w' : World} : ∀ (xs : List AV) (vs : List Value), noMems xs = true → VReps w ok rows β xs vs → VReps w' ok' rows' β' xs vs
  | [], _, _, h => h
  | x :: xs, _, hp, ⟨v, vs', he, h, hs⟩ => by
    simp only [noMems, Bool.and_eq_true] at hp
    exact ⟨v, vs', he, VRep.noMem x v hp.1 h, VReps.noMem xs vs' hp.2 hs⟩
end
end
theorem pureAs_mem : ∀ {xs : List AV} (h : pureAs xs = true) {x : AV} (hx : x ∈ xs), pureA x = true
  | [], _, _, hx => by simp at hx
  | y :: ys, h, x, hx => by
    simp only [pureAs, Bool.and_eq_true] at h
    rcases List.mem_cons.1 hx with rfl | hx
    · exact h.1
    · exact pureAs_mem h.2 hx
theorem pureAs_of : ∀ {xs : List AV} (h : ∀ x ∈ xs, pureA x = true), pureAs xs = true
  | [], _ => rfl
  | y :: ys, h => by simp only [pureAs, Bool.and_eq_true]; exact ⟨h y (by simp), pureAs_of fun x hx => h x (by simp [hx])⟩
section
variable {P : Program} {GE : Nat → Option (List AV)} {w0 : World} {ok0 : Nat → Prop} {B : Option Nat} {β : Nat → Nat} {st : St} {a : Act} {w : World}
/-- The blocks that may be looked at by whoever is handed values: all, or those that are written no more. -/
def okC (strict : Bool) (w0 : World) (ok0 : Nat → Prop) (B : Option Nat) (rows : List Row) (β : Nat → Nat) (k : Nat) : Prop := strict = true → okN w0 ok0 B rows β k
mutual
theorem fz_sound' (h : SR w0 ok0 B β st a w) (strict : Bool) {ok' : Nat → Prop} (h1 : ∀ k, okN w0 ok0 B st.rows β k → ok' k) (h2 : ∀ r row, st.rows[r]? = some row → (strict = true → row.hot = false) → ok' (β r)) :
    ∀ (x y : AV) (v : Value), VS w0 ok0 B β st w x v → fz strict st.rows x = some y → VRep w ok' [] (fun _ => 0) y v
  | .int _ _, y, v, hx, hf => by simp [fz] at hf; subst hf; exact hx
  | .bool _, y, v, hx, hf => by simp [fz] at hf; subst hf; exact hx
  | .lit _, y, v, hx, hf => by simp [fz] at hf; subst hf; exact hx
  | .emp, y, v, hx, hf => by simp [fz] at hf; subst hf; exact hx
  | .any, y, v, hx, hf => by simp [fz] at hf; subst hf; trivial
  | .agg cs, y, v, ⟨vs, hv, hx⟩, hf => by
    simp only [fz, Option.map_eq_some_iff] at hf
    obtain ⟨ys, hys, rfl⟩ := hf
    exact ⟨vs, hv, fzs_sound' h strict h1 h2 cs ys vs hx hys⟩
  | .tup cs, y, v, ⟨vs, hv, hx⟩, hf => by
    simp only [fz, Option.map_eq_some_iff] at hf
    obtain ⟨ys, hys, rfl⟩ := hf
    exact ⟨vs, hv, fzs_sound' h strict h1 h2 cs ys vs hx hys⟩
  | .lst n cs, y, v, hx, hf => by
    simp only [fz] at hf
    split at hf
    · rename_i hp; cases hf; exact VRep.pure h1 _ _ (by simpa [pureA] using hp) hx
    · cases hf
  | .lptr cs, y, v, hx, hf => by
    simp only [fz] at hf
    split at hf
    · rename_i hp; cases hf; exact VRep.pure h1 _ _ (by simpa [pureA] using hp) hx
    · cases hf
  | .ptr .., y, v, hx, hf => by simp [fz] at hf
  | .own r ver off n sz, y, v, ⟨ad, cap, hv, hc, row, hr, hle, hh⟩, hf => by
    simp only [fz, hr] at hf
    split at hf
    · rename_i hcond
      cases hf
      obtain ⟨rfl, _⟩ := hh hcond.1
      refine ⟨_, cap, hv, hc, fun _ => ⟨β r, off, rfl, h2 r row hr hcond.2.1, ?_⟩⟩
      have := ((h.row r row hr).2.1.drop off).take (n * sz)
      simp only [Nat.zero_add] at this
      exact MReps.pure h1 _ _ _ (pureAs_of fun x hx => pureAs_mem hcond.2.2.2 (List.mem_of_mem_drop (List.mem_of_mem_take hx))) this
    · cases hf
theorem fzs_sound' (h : SR w0 ok0 B β st a w) (strict : Bool) {ok' : Nat → Prop} (h1 : ∀ k, okN w0 ok0 B st.rows β k → ok' k) (h2 : ∀ r row, st.rows[r]? = some row → (strict = true → row.hot = false) → ok' (β r)) :
    ∀ (xs ys : List AV) (vs : List Value), VReps w (okN w0 ok0 B st.rows β) st.rows β xs vs → fzs strict st.rows xs = some ys → VReps w ok' [] (fun _ => 0) ys vs
  | [], ys, vs, hx, hf => by simp [fzs] at hf; subst hf; exact hx
  | x :: xs, ys, vs, ⟨v, vs', he, hx, hxs⟩, hf => by
    simp only [fzs] at hf
    split at hf
    · rename_i y ys' e1 e2
      cases hf
      exact ⟨v, vs', he, fz_sound' h strict h1 h2 x y v hx e1, fzs_sound' h strict h1 h2 xs ys' vs' hxs e2⟩
    · cases hf
end
theorem row_first (h : SR w0 ok0 B β st a w) {r : Nat} {row : Row} (hr : st.rows[r]? = some row) : (ok0 (β r) ∧ β r < w0.heap.size) ∨ w0.heap.size ≤ β r ∨ B = some (β r) := by
  rcases (h.row r row hr).2.2 with hx | hx
  · exact .inr (.inr hx)
  · exact .inr (.inl hx)
theorem fzs_sound (h : SR w0 ok0 B β st a w) (strict : Bool) (xs ys : List AV) (vs : List Value) (hx : VReps w (okN w0 ok0 B st.rows β) st.rows β xs vs) (hf : fzs strict st.rows xs = some ys) :
    VReps w (okC strict w0 ok0 B st.rows β) [] (fun _ => 0) ys vs :=
  fzs_sound' h strict (fun k hk _ => hk) (fun r row hr hh hs => ⟨row_first h hr, fun q rw hq hhot he => by
    have := h.inj q r rw row hq hr he
    subst this
    rw [hr] at hq
    cases hq
    rw [hh hs] at hhot
    cases hhot⟩) xs ys vs hx hf
def Callable (P : Program) (f : FuncId) : Prop := ∃ fn, P.funcs[f]? = some fn ∧ (fn.name == "runtime.NumGoroutine") = false ∧ fn.body.isNone = false
/-- Called with these values the function hands back that value, and changes nothing that was there. -/
def Ret (P : Program) (GE : Nat → Option (List AV)) (f : FuncId) (args : List AV) (r : AV) : Prop :=
  Callable P f ∧ ∀ (w : World) (ok : Nat → Prop) (vargs : List Value), GRep GE w ok → VReps w ok [] (fun _ => 0) args vargs →
    Calls P f vargs.toArray w fun e w' => ∃ v, e = .returned v ∧ VRep w' (fun k => (ok k ∧ k < w.heap.size) ∨ w.heap.size ≤ k) [] (fun _ => 0) r v ∧ Below w.heap.size w w'
/-- The same of a function without a body. -/
def RetX (P : Program) (f : FuncId) (args : List AV) (r : AV) : Prop :=
  ∀ (w : World) (ok : Nat → Prop) (vargs : List Value), VReps w ok [] (fun _ => 0) args vargs → ∃ v, (callFunc f vargs.toArray).run P w = .ok (.value v) w ∧ VRep w ok [] (fun _ => 0) r v
/-- What a call of a function hands back. -/
def ACall (P : Program) (GE : Nat → Option (List AV)) (st : St) (f : AV) (args : List AV) (r : AV) : Prop :=
  ∃ g, f = .lit (.func (.func g) #[] #[]) ∧
    ((∃ args', fzs true st.rows args = some args' ∧ Ret P GE g args' r) ∨ (∃ args', fzs false st.rows args = some args' ∧ Ret P GE g args' r ∧ noMem r = true) ∨
     (∃ args', fzs false st.rows args = some args' ∧ RetX P g args' r ∧ noMem r = true))
/-- An operation of a state: 'K' is what is asked of the state behind it. -/
def AOp (P : Program) (GE : Nat → Option (List AV)) (op : Op) (dst : Option Tmp) (st : St) (K : St → Prop) : Prop :=
  match op with
  | .call { callee := .value f, args, .. } => ∃ r, ACall P GE st (eval GE st f) (args.toList.map (eval GE st)) r ∧ K (st.put dst r)
  | op => ∃ st' x, aexec P GE st op = some (st', x) ∧ K (st'.put dst x)
def AStep (P : Program) (GE : Nat → Option (List AV)) (op : Op) (dst : Option Tmp) (st st' : St) : Prop := AOp P GE op dst st fun s => s = st'
theorem AOp_iff {op : Op} {dst : Option Tmp} {K : St → Prop} : AOp P GE op dst st K ↔ ∃ st', AStep P GE op dst st st' ∧ K st' := by
  unfold AStep AOp
  split
  · constructor
    · rintro ⟨r, h, k⟩; exact ⟨_, ⟨r, h, rfl⟩, k⟩
    · rintro ⟨_, ⟨r, h, rfl⟩, k⟩; exact ⟨r, h, k⟩
  · constructor
    · rintro ⟨s, x, h, k⟩; exact ⟨_, ⟨s, x, h, rfl⟩, k⟩
    · rintro ⟨_, ⟨s, x, h, rfl⟩, k⟩; exact ⟨s, x, h, k⟩
theorem GRep.later (h : SR w0 ok0 B β st a w) (hB : ∀ k, B = some k → ¬ ok0 k) (hG : GRep GE w0 ok0) {ok : Nat → Prop} (hok : ∀ k, okN w0 ok0 B st.rows β k → ok k) : GRep GE w ok := fun g cs hg hne => by
  obtain ⟨h1, h2⟩ := hG g cs hg hne
  have hm := MReps.mono (h.mono0 hB [] (fun _ => 0)) cs g 0 h1 h2
  have hlt : g < w0.heap.size := by
    cases cs with
    | nil => exact absurd rfl hne
    | cons c cs => obtain ⟨⟨u, hu, _⟩, _⟩ := h2; exact World.block_lt_of_cell? w0 _ hu
  refine ⟨hok g ((h.mono0 hB [] (fun _ => 0)).ok g h1 hlt), ?_⟩
  have hid : Mono w (okN w0 ok0 B st.rows β) [] (fun _ => 0) w ok [] (fun _ => 0) := ⟨fun _ _ _ _ hc => hc, fun k hk _ => hok k hk, fun r row hr => by simp at hr⟩
  exact MReps.mono hid cs g 0 ((h.mono0 hB [] (fun _ => 0)).ok g h1 hlt) hm
/-- What is done is what the state says. -/
theorem AStep_sound (h : SR w0 ok0 B β st a w) (hB : ∀ k, B = some k → ¬ ok0 k) (hG : GRep GE w0 ok0) {o : Oper} {st' : St} (hs : AStep P GE o.op o.dst st st') {K : Act → World → Prop} {Q : Exit → Act → World → Prop}
    (hK : ∀ β' a' w', SR w0 ok0 B β' st' a' w' → K a' w') : o.wp P a w K Q := by
  unfold AStep AOp at hs
  split at hs
  · rename_i f args ats hop
    obtain ⟨r, ⟨g, hf, hc⟩, rfl⟩ := hs
    have hfv := eval_sound h hB hG f
    rw [hf] at hfv
    have hfv' : a.eval f = .func (.func g) #[] #[] := hfv.1
    have hargs := args_sound h hB hG args.toList
    have heq : (args.toList.map a.eval).toArray = args.map a.eval := by apply Array.ext'; simp
    have hexec : (execOp a.eval o).run P w = (callFunc g (args.map a.eval)).run P w := by
      simp [execOp, hop, resolve, hfv', Deferred.ofValue, invoke]
    have hret : ∀ (strict : Bool) (args' : List AV), fzs strict st.rows (args.toList.map (eval GE st)) = some args' → Ret P GE g args' r → (strict = true ∨ noMem r = true) → o.wp P a w K Q := by
      rintro strict args' hfz ⟨⟨fn, hfn, hname, hbody⟩, hr⟩ hsn
      have hcf : (callFunc g (args.map a.eval)).run P w = .ok (.enter g (args.map a.eval)) w := by
        have hn' : ¬ (fn.name = "runtime.NumGoroutine") := by simpa using hname
        have hb' : ¬ (fn.body = none) := fun he => by rw [he] at hbody; cases hbody
        simp [callFunc, hfn, hn', hb']
      have hcalls := hr w (okC strict w0 ok0 B st.rows β) _ (GRep.later h hB hG fun k hk _ => hk) (fzs_sound h strict _ _ _ hargs hfz)
      unfold Oper.wp
      rw [hexec, hcf]
      simp only [Oper.upon]
      rw [heq] at hcalls
      refine hcalls.mono fun e w' ⟨v, he, hv, hb⟩ => ?_
      subst he
      have h' := h.keep hb
      refine hK β _ w' (h'.put o.dst ?_)
      rcases hsn with rfl | hnm
      · have hid : Mono w' (fun k => (okC true w0 ok0 B st.rows β k ∧ k < w.heap.size) ∨ w.heap.size ≤ k) [] (fun _ => 0) w' (okN w0 ok0 B st.rows β) st.rows β :=
          ⟨fun _ _ _ _ hc => hc, fun k hk _ => by
            rcases hk with ⟨hk, _⟩ | hk
            · exact hk rfl
            · exact ⟨.inr (.inl (Nat.le_trans h.size hk)), fun r row hr hh he => by have := h.lt hr; omega⟩, fun r row hr => by simp at hr⟩
        exact VRep.mono hid _ _ hv
      · exact VRep.noMem _ _ hnm hv
    rcases hc with ⟨args', h1, h2⟩ | ⟨args', h1, h2, h3⟩ | ⟨args', h1, h2, h3⟩
    · exact hret true args' h1 h2 (.inl rfl)
    · exact hret false args' h1 h2 (.inr h3)
    · obtain ⟨v, hrun, hv⟩ := h2 w _ _ (fzs_sound h false _ _ _ hargs h1)
      rw [heq] at hrun
      unfold Oper.wp
      rw [hexec, hrun]
      simp only [Oper.upon]
      exact hK β _ w (h.put o.dst (VRep.noMem _ _ h3 hv))
  · rename_i op hop
    obtain ⟨s, x, hx, rfl⟩ := hs
    obtain ⟨β', v, w', nx, hrun, hnx, hS, hv⟩ := aexec_sound (o := { o with op := o.op }) h hB hG hx
    unfold Oper.wp
    have hrun' : (execOp a.eval o).run P w = .ok nx w' := hrun
    rw [hrun']
    rcases hnx with rfl | ⟨rfl, rfl⟩
    · exact hK β' _ w' (hS.put o.dst hv)
    · exact hK β' _ w' (hS.put o.dst hv)
end
end Go.Ax
set_option linter.unusedVariables false
set_option linter.unusedSimpArgs false
namespace Go.Ax
open Go.RowKit
section
variable {P : Program} {GE : Nat → Option (List AV)}
theorem map_st {α : Type} {o : Option AV} {st : St} {s : St} {x : AV} (h : o.map (fun v => (st, v)) = some (s, x)) : s = st ∧ o = some x := by
  simp only [Option.map_eq_some_iff] at h
  obtain ⟨v, hv, h⟩ := h
  cases h
  exact ⟨rfl, hv⟩
theorem bound_congr {st1 st2 : St} {n : Nat} {o : Option Operand} (h : ∀ x, o = some x → eval GE st1 x = eval GE st2 x) : boundA GE st1 n o = boundA GE st2 n o := by
  cases o with
  | none => rfl
  | some x => simp only [boundA, h x rfl]
set_option maxHeartbeats 1000000 in
theorem aexec_congr {st1 st2 : St} (hr : st1.rows = st2.rows) {op : Op} (he : ∀ x ∈ op.operands, eval GE st1 x = eval GE st2 x) {s : St} {x : AV} (h : aexec P GE st1 op = some (s, x)) :
    s.tmps = st1.tmps ∧ aexec P GE st2 op = some ({ st2 with rows := s.rows }, x) := by
  have hst2 : ({ st2 with rows := st1.rows } : St) = st2 := by rw [hr]
  cases op <;> simp only [aexec] at h ⊢ <;> try (cases h; done)
  case move y => rw [← he y (by simp [Op.operands])]; cases h; exact ⟨rfl, by rw [hst2]⟩
  case assign y => rw [← he y (by simp [Op.operands])]; cases h; exact ⟨rfl, by rw [hst2]⟩
  case pick c y z =>
    rw [← he c (by simp [Op.operands]), ← he y (by simp [Op.operands]), ← he z (by simp [Op.operands])]
    split at h
    · cases h; exact ⟨rfl, by rw [hst2]⟩
    · cases h
  case alloc e => rw [← hr]; split at h <;> cases h; exact ⟨rfl, rfl⟩
  case box e y => rw [← hr, ← he y (by simp [Op.operands])]; split at h <;> cases h; exact ⟨rfl, rfl⟩
  case build t parts =>
    have hp : (parts.toList.map fun p => (p.1, eval GE st1 p.2)) = parts.toList.map fun p => (p.1, eval GE st2 p.2) := List.map_congr_left fun p hp => by
      rw [he p.2 (by simp only [Op.operands]; simp; exact ⟨p.1, by simpa using hp⟩)]
    rw [← hp]
    split at h
    · split at h
      · split at h
        · simp only [Option.map_eq_some_iff] at h ⊢
          obtain ⟨cs, hf, h⟩ := h
          cases h
          exact ⟨rfl, cs, hf, by rw [hst2]⟩
        · cases h
      · cases h
    · cases h
  case buildSlice t len parts =>
    have hp : (parts.toList.map fun p => (p.1, eval GE st1 p.2)) = parts.toList.map fun p => (p.1, eval GE st2 p.2) := List.map_congr_left fun p hp => by
      rw [he p.2 (by simp only [Op.operands]; simp; exact ⟨p.1, by simpa using hp⟩)]
    rw [← hp]
    split at h
    · split at h
      · split at h
        · split at h
          · rename_i hc
            simp only [Option.map_eq_some_iff] at h
            obtain ⟨cs, hf, h⟩ := h
            cases h
            exact ⟨rfl, by simp only [hst2]; rw [if_pos hc, hf]; rfl⟩
          · cases h
        · cases h
      · cases h
    · cases h
  case load t p =>
    rw [← hr, ← he p (by simp [Op.operands])]
    split at h
    · obtain ⟨rfl, h'⟩ := map_st (α := Unit) h
      exact ⟨rfl, by rw [h', hst2]; rfl⟩
    · cases h
  case store t p y =>
    rw [← hr, ← he p (by simp [Op.operands]), ← he y (by simp [Op.operands])]
    split at h
    · split at h
      · split at h
        · rename_i hc; cases h; exact ⟨rfl, by rw [if_pos hc]⟩
        · cases h
      · cases h
    · cases h
  case binOp op t y z u =>
    rw [← he y (by simp [Op.operands]), ← he z (by simp [Op.operands])]
    split at h
    · obtain ⟨rfl, h'⟩ := map_st (α := Unit) h; exact ⟨rfl, by rw [h', hst2]; rfl⟩
    · obtain ⟨rfl, h'⟩ := map_st (α := Unit) h; exact ⟨rfl, by rw [h', hst2]; rfl⟩
  case unOp op t y =>
    rw [← he y (by simp [Op.operands])]
    obtain ⟨rfl, h'⟩ := map_st (α := Unit) h; exact ⟨rfl, by rw [h', hst2]; rfl⟩
  case convert s t y =>
    rw [← he y (by simp [Op.operands])]
    split at h
    · split at h <;> cases h; exact ⟨rfl, by rw [hst2]⟩
    · cases h
  case makeSlice t l c =>
    rw [← hr, ← he l (by simp [Op.operands]), ← he c (by simp [Op.operands])]
    split at h
    · split at h
      · split at h
        · split at h
          · rename_i hc; cases h; exact ⟨rfl, by rw [if_pos hc]⟩
          · cases h
        · cases h
      · cases h
    · cases h
  case slice t y lo hi mx =>
    have h1 : ∀ x, lo = some x → eval GE st1 x = eval GE st2 x := fun x hx => he x (by simp [Op.operands, hx])
    have h2 : ∀ x, hi = some x → eval GE st1 x = eval GE st2 x := fun x hx => he x (by simp [Op.operands, hx])
    have h3 : ∀ x, mx = some x → eval GE st1 x = eval GE st2 x := fun x hx => he x (by simp [Op.operands, hx])
    rw [← he y (by simp [Op.operands])]
    simp only [← bound_congr h1, ← bound_congr h2]
    split at h
    · split at h
      · split at h
        · split at h
          · split at h
            · obtain ⟨rfl, h'⟩ := map_st (α := Unit) h; exact ⟨rfl, by rw [h', hst2]; rfl⟩
            · rw [h3 _ rfl] at h
              split at h
              · split at h
                · rename_i hc
                  obtain ⟨rfl, h'⟩ := map_st (α := Unit) h
                  exact ⟨rfl, by simp only [if_pos hc, h', hst2, Option.map_some]⟩
                · cases h
              · cases h
            · cases h
          · cases h
        · cases h
      · cases h
    · cases h
  case fieldAddr s p f =>
    rw [← hr, ← he p (by simp [Op.operands])]
    split at h
    · split at h
      · split at h
        · split at h
          · rename_i hc
            rw [if_pos hc]
            split at h
            · split at h
              · split at h
                · rename_i hv; cases h; exact ⟨rfl, by rw [if_pos hv, hst2]⟩
                · cases h
              · cases h
            · cases h; exact ⟨rfl, by rw [hst2]⟩
            · cases h
          · cases h
        · cases h
      · cases h
    · cases h
  case field s y f =>
    rw [← he y (by simp [Op.operands])]
    split at h
    · split at h
      · split at h
        · split at h
          · obtain ⟨rfl, h'⟩ := map_st (α := Unit) h; exact ⟨rfl, by rw [h', hst2]; rfl⟩
          · cases h
        · cases h
      · cases h
    · cases h
  case indexAddr t y i =>
    rw [← hr, ← he y (by simp [Op.operands]), ← he i (by simp [Op.operands])]
    split at h
    · split at h
      · split at h
        · split at h
          · split at h
            · rename_i hc; cases h; exact ⟨rfl, by rw [if_pos hc, hst2]⟩
            · cases h
          · split at h
            · split at h
              · rename_i hc; cases h; exact ⟨rfl, by rw [if_pos hc, hst2]⟩
              · cases h
            · cases h
          · cases h
        · cases h
      · split at h
        · split at h
          · split at h
            · rename_i hc; cases h; exact ⟨rfl, by rw [if_pos hc, hst2]⟩
            · cases h
          · cases h
        · cases h
      · cases h
    · cases h
  case index t y i =>
    rw [← he y (by simp [Op.operands]), ← he i (by simp [Op.operands])]
    split at h
    · split at h
      · split at h
        · split at h
          · rename_i hc; obtain ⟨rfl, h'⟩ := map_st (α := Unit) h; exact ⟨rfl, by rw [if_pos hc, h', hst2]; rfl⟩
          · cases h
        · cases h
      · cases h
    · cases h
  case extract y i =>
    rw [← he y (by simp [Op.operands])]
    split at h
    · obtain ⟨rfl, h'⟩ := map_st (α := Unit) h; exact ⟨rfl, by rw [h', hst2]; rfl⟩
    · cases h
  case call c =>
    have ha : c.args.toList.map (eval GE st1) = c.args.toList.map (eval GE st2) := List.map_congr_left fun y hy => he y (by simp [Op.operands, Call.operands]; exact .inr (by simpa using hy))
    rw [← ha]
    split at h
    · split at h
      · split at h
        · split at h <;> cases h; exact ⟨rfl, by rw [hst2]⟩
        · cases h
      · cases h
    · split at h
      · obtain ⟨rfl, h'⟩ := map_st (α := Unit) h; exact ⟨rfl, by rw [h', hst2]; rfl⟩
      · cases h
    · split at h
      · obtain ⟨rfl, h'⟩ := map_st (α := Unit) h; exact ⟨rfl, by rw [h', hst2]; rfl⟩
      · cases h
    · split at h
      · split at h
        · rename_i htu
          rw [if_pos htu]
          split at h
          · split at h
            · split at h
              · split at h
                · rename_i hz
                  rw [if_pos hz]
                  unfold appendA at h ⊢
                  rw [← hr]
                  split at h
                  · split at h
                    · rename_i hc
                      rw [if_pos hc]
                      split at h
                      · split at h
                        · rename_i hm; cases h; exact ⟨rfl, by rw [if_pos hm, hst2]⟩
                        · rename_i hm
                          rw [if_neg hm]
                          split at h
                          · rename_i hq; cases h; exact ⟨rfl, by rw [if_pos hq]⟩
                          · cases h
                      · split at h
                        · split at h
                          · rename_i hq; cases h; exact ⟨rfl, by rw [if_pos hq]⟩
                          · cases h
                        · cases h
                      · cases h
                    · cases h
                  · cases h
                · cases h
              · cases h
            · cases h
          · cases h
        · cases h
      · cases h
    · cases h
end
end Go.Ax
set_option linter.unusedVariables false
set_option linter.unusedSimpArgs false
namespace Go.Ax
open Go.RowKit
section
variable {P : Program} {GE : Nat → Option (List AV)}
/-- 0: looks at no row; 1: looks at rows; 2: makes one; 3: may change one. -/
def cls : Op → Nat
  | .move _ => 0 | .assign _ => 0 | .pick .. => 0 | .build .. => 0 | .buildSlice .. => 0 | .binOp .. => 0 | .unOp .. => 0 | .convert .. => 0 | .slice .. => 0 | .field .. => 0 | .index .. => 0 | .extract .. => 0
  | .load .. => 1 | .fieldAddr .. => 1 | .indexAddr .. => 1
  | .alloc _ => 2 | .box .. => 2 | .makeSlice .. => 2
  | .call c => match c.callee with | .value _ => 1 | .builtin .len => 0 | .builtin .max => 0 | .builtin .min => 0 | _ => 3
  | _ => 3
theorem eval_rows (st : St) (rows' : List Row) (x : Operand) : eval GE { st with rows := rows' } x = eval GE st x := by cases x <;> rfl
theorem bound_rows (st : St) (rows' : List Row) (n : Nat) (o : Option Operand) : boundA GE { st with rows := rows' } n o = boundA GE st n o := by cases o <;> simp [boundA, eval_rows]
theorem aexec_N {st : St} {op : Op} (hc : cls op = 0) {s : St} {x : AV} (h : aexec P GE st op = some (s, x)) (rows' : List Row) : s = st ∧ aexec P GE { st with rows := rows' } op = some ({ st with rows := rows' }, x) := by
  have hev : eval GE ({ st with rows := rows' } : St) = eval GE st := funext (eval_rows st rows')
  cases op <;> simp [cls] at hc <;> simp only [aexec, hev, bound_rows] at h ⊢
  case move y => cases h; exact ⟨rfl, rfl⟩
  case assign y => cases h; exact ⟨rfl, rfl⟩
  case pick c y z => split at h <;> cases h; exact ⟨rfl, rfl⟩
  case build t parts =>
    split at h
    · split at h
      · split at h
        · simp only [Option.map_eq_some_iff] at h ⊢
          obtain ⟨cs, hf, h⟩ := h
          cases h
          exact ⟨rfl, cs, hf, rfl⟩
        · cases h
      · cases h
    · cases h
  case buildSlice t len parts =>
    split at h
    · split at h
      · split at h
        · split at h
          · rename_i hc
            simp only [Option.map_eq_some_iff] at h
            obtain ⟨cs, hf, h⟩ := h
            cases h
            exact ⟨rfl, by rw [if_pos hc, hf]; rfl⟩
          · cases h
        · cases h
      · cases h
    · cases h
  case binOp op t y z u =>
    split at h
    · obtain ⟨rfl, h'⟩ := map_st (α := Unit) h; exact ⟨rfl, by rw [h']; rfl⟩
    · obtain ⟨rfl, h'⟩ := map_st (α := Unit) h; exact ⟨rfl, by rw [h']; rfl⟩
  case unOp op t y => obtain ⟨rfl, h'⟩ := map_st (α := Unit) h; exact ⟨rfl, by rw [h']; rfl⟩
  case convert s t y =>
    split at h
    · split at h <;> cases h; exact ⟨rfl, rfl⟩
    · cases h
  case slice t y lo hi mx =>
    split at h
    · split at h
      · split at h
        · split at h
          · split at h
            · obtain ⟨rfl, h'⟩ := map_st (α := Unit) h; exact ⟨rfl, by rw [h']; rfl⟩
            · split at h
              · split at h
                · rename_i hc
                  obtain ⟨rfl, h'⟩ := map_st (α := Unit) h
                  exact ⟨rfl, by simp only [if_pos hc, h', Option.map_some]⟩
                · cases h
              · cases h
            · cases h
          · cases h
        · cases h
      · cases h
    · cases h
  case field s y f =>
    split at h
    · split at h
      · split at h
        · split at h
          · obtain ⟨rfl, h'⟩ := map_st (α := Unit) h; exact ⟨rfl, by rw [h']; rfl⟩
          · cases h
        · cases h
      · cases h
    · cases h
  case index t y i =>
    split at h
    · split at h
      · split at h
        · split at h
          · rename_i hc; obtain ⟨rfl, h'⟩ := map_st (α := Unit) h; exact ⟨rfl, by rw [if_pos hc, h']; rfl⟩
          · cases h
        · cases h
      · cases h
    · cases h
  case extract y i =>
    split at h
    · obtain ⟨rfl, h'⟩ := map_st (α := Unit) h; exact ⟨rfl, by rw [h']; rfl⟩
    · cases h
  case call c =>
    split at h
    · split at h
      · split at h
        · split at h <;> cases h; exact ⟨rfl, rfl⟩
        · cases h
      · cases h
    · split at h
      · obtain ⟨rfl, h'⟩ := map_st (α := Unit) h; exact ⟨rfl, by rw [h']; rfl⟩
      · cases h
    · split at h
      · obtain ⟨rfl, h'⟩ := map_st (α := Unit) h; exact ⟨rfl, by rw [h']; rfl⟩
      · cases h
    · rename_i hb; rw [hb] at hc; simp at hc
    · cases h
theorem get_app {rows new : List Row} {r : Nat} {row : Row} (h : rows[r]? = some row) : (rows ++ new)[r]? = some row := by
  rw [List.getElem?_append_left (List.getElem?_eq_some_iff.1 h).1]; exact h
theorem cellsAt_app {rows new : List Row} {x : AV} {cs : List AV} (h : cellsAt rows x = some cs) : cellsAt (rows ++ new) x = some cs := by
  cases x <;> simp only [cellsAt] at h ⊢ <;> try (first | exact h | cases h; done)
  split at h
  · rename_i row hr; rw [get_app hr]; exact h
  · cases h
theorem aexec_R {st : St} {op : Op} (hc : cls op = 1) (hv : ∀ c f, op = .call c → c.callee ≠ .value f) {s : St} {x : AV} (h : aexec P GE st op = some (s, x)) (new : List Row) :
    s = st ∧ aexec P GE { st with rows := st.rows ++ new } op = some ({ st with rows := st.rows ++ new }, x) := by
  have hev : eval GE ({ st with rows := st.rows ++ new } : St) = eval GE st := funext (eval_rows st _)
  cases op <;> simp [cls] at hc <;> simp only [aexec, hev] at h ⊢
  case load t p =>
    split at h
    · rename_i tv cs ht hcs
      obtain ⟨rfl, h'⟩ := map_st (α := Unit) h
      rw [ht, cellsAt_app hcs]
      exact ⟨rfl, by simp only [h', Option.map_some]⟩
    · cases h
  case fieldAddr s p f =>
    split at h
    · split at h
      · split at h
        · split at h
          · rename_i hc
            rw [if_pos hc]
            split at h
            · split at h
              · rename_i row hr
                split at h
                · rename_i hv; cases h; exact ⟨rfl, by rw [get_app hr]; simp only; rw [if_pos hv]⟩
                · cases h
              · cases h
            · cases h; exact ⟨rfl, rfl⟩
            · cases h
          · cases h
        · cases h
      · cases h
    · cases h
  case indexAddr t y i =>
    split at h
    · split at h
      · split at h
        · split at h
          · split at h
            · rename_i hc; cases h; exact ⟨rfl, by rw [if_pos hc]⟩
            · cases h
          · split at h
            · rename_i row hr
              split at h
              · rename_i hc; cases h; exact ⟨rfl, by rw [get_app hr]; simp only; rw [if_pos hc]⟩
              · cases h
            · cases h
          · cases h
        · cases h
      · split at h
        · split at h
          · split at h
            · rename_i hc; cases h; exact ⟨rfl, by rw [if_pos hc]⟩
            · cases h
          · cases h
        · cases h
      · cases h
    · cases h
  case call c =>
    split at h
    · rename_i hb; rw [hb] at hc; simp at hc
    · rename_i hb; rw [hb] at hc; simp at hc
    · rename_i hb; rw [hb] at hc; simp at hc
    · rename_i hb; rw [hb] at hc; simp at hc
    · cases h
theorem aexec_A {st : St} {op : Op} (hc : cls op = 2) {s : St} {x : AV} (h : aexec P GE st op = some (s, x)) : ∃ new, s.rows = st.rows ++ new := by
  cases op <;> simp [cls] at hc <;> simp only [aexec] at h
  case alloc e => split at h <;> cases h; exact ⟨_, rfl⟩
  case box e y => split at h <;> cases h; exact ⟨_, rfl⟩
  case makeSlice t l c =>
    split at h
    · split at h
      · split at h
        · split at h <;> cases h; exact ⟨_, rfl⟩
        · cases h
      · cases h
    · cases h
  case call c => split at hc <;> simp at hc
mutual
theorem fz_app {strict : Bool} {rows new : List Row} : ∀ {x y : AV}, fz strict rows x = some y → fz strict (rows ++ new) x = some y
  | .int .., y, h => h
  | .bool _, y, h => h
  | .lit _, y, h => h
  | .emp, y, h => h
  | .any, y, h => h
  | .agg cs, y, h => by simp only [fz, Option.map_eq_some_iff] at h ⊢; obtain ⟨ys, h1, h2⟩ := h; exact ⟨ys, fzs_app h1, h2⟩
  | .tup cs, y, h => by simp only [fz, Option.map_eq_some_iff] at h ⊢; obtain ⟨ys, h1, h2⟩ := h; exact ⟨ys, fzs_app h1, h2⟩
  | .lst n cs, y, h => h
  | .lptr cs, y, h => h
  | .ptr .., y, h => h
  | .own r ver off n sz, y, h => by
    simp only [fz] at h ⊢
    split at h
    · rename_i row hr; rw [get_app hr]; exact h
    · cases h
theorem fzs_app {strict : Bool} {rows new : List Row} : ∀ {xs ys : List AV}, fzs strict rows xs = some ys → fzs strict (rows ++ new) xs = some ys
  | [], ys, h => h
  | x :: xs, ys, h => by
    simp only [fzs] at h ⊢
    split at h
    · rename_i y ys' h1 h2; rw [fz_app h1, fzs_app h2]; exact h
    · cases h
end
theorem put_rows (st : St) (d : Option Tmp) (x : AV) : (st.put d x).rows = st.rows := by cases d <;> rfl
theorem put_with (st : St) (d : Option Tmp) (x : AV) (rows' : List Row) : ({ st with rows := rows' } : St).put d x = { st.put d x with rows := rows' } := by cases d <;> rfl
theorem eval_put {st : St} {d : Option Tmp} {v : AV} {x : Operand} (h : ∀ t, d = some t → x ≠ .tmp t) : eval GE (st.put d v) x = eval GE st x := by
  cases d with
  | none => rfl
  | some t =>
    cases x with
    | tmp u =>
      have hne : t ≠ u := fun e => h t rfl (by rw [e])
      simp only [eval, St.get, St.put, List.getD, List.getElem?_set_ne hne]
    | _ => rfl
theorem put_comm (st : St) {x y : Option Tmp} (v u : AV) (h : ∀ d, x = some d → y ≠ some d) : (st.put x v).put y u = (st.put y u).put x v := by
  cases x with
  | none => rfl
  | some d =>
    cases y with
    | none => rfl
    | some e =>
      have hne : d ≠ e := fun he => h d rfl (by rw [he])
      simp only [St.put]
      rw [List.set_comm _ _ hne]
def gval (ops : Array Oper) (st : St) (j : Nat) : Option (Option Bool) :=
  match (ops[j]?).bind (·.dst) with
  | some d => match st.get d with
    | .bool b => some (some b)
    | .tup [] => some none
    | _ => none
  | none => none
/-- An operation of a region, under its guard. -/
def AGOp (P : Program) (GE : Nat → Option (List AV)) (ops : Array Oper) (o : Oper) (st : St) (K : St → Prop) : Prop :=
  match o.guard with
  | none => AOp P GE o.op o.dst st K
  | some (j, want) => match gval ops st j with
    | some b => if b = some want then AOp P GE o.op o.dst st K else K (st.put o.dst (.tup []))
    | none => False
def AGStep (P : Program) (GE : Nat → Option (List AV)) (ops : Array Oper) (o : Oper) (st st' : St) : Prop := AGOp P GE ops o st fun s => s = st'
theorem AGOp_iff {ops : Array Oper} {o : Oper} {st : St} {K : St → Prop} : AGOp P GE ops o st K ↔ ∃ st', AGStep P GE ops o st st' ∧ K st' := by
  unfold AGStep AGOp
  split
  · exact AOp_iff
  · split
    · split
      · exact AOp_iff
      · exact ⟨fun h => ⟨_, rfl, h⟩, fun ⟨_, h1, h2⟩ => h1 ▸ h2⟩
    · exact ⟨fun h => h.elim, fun ⟨_, h, _⟩ => h⟩
/-- What a step is made of: rows and a value, found by looking at operands. -/
theorem AStep_congr {st1 st2 : St} {op : Op} {dst : Option Tmp} (hr : st1.rows = st2.rows) (he : ∀ x ∈ op.operands, eval GE st1 x = eval GE st2 x) {s1 : St} (h : AStep P GE op dst st1 s1) :
    ∃ rows' x, s1 = ({ st1 with rows := rows' } : St).put dst x ∧ AStep P GE op dst st2 (({ st2 with rows := rows' } : St).put dst x) := by
  unfold AStep AOp at h ⊢
  split at h
  · rename_i f args ats
    obtain ⟨r, hc, rfl⟩ := h
    refine ⟨st1.rows, r, rfl, r, ?_, ?_⟩
    · rw [← he f (by simp [Op.operands, Call.operands])]
      have ha : args.toList.map (eval GE st2) = args.toList.map (eval GE st1) := List.map_congr_left fun y hy => (he y (by simp [Op.operands, Call.operands]; exact .inr (by simpa using hy))).symm
      rw [ha]
      unfold ACall at hc ⊢
      rw [← hr]
      exact hc
    · rw [hr]
  · rename_i op hop
    obtain ⟨s, x, hx, rfl⟩ := h
    obtain ⟨h1, h2⟩ := aexec_congr hr he hx
    refine ⟨s.rows, x, ?_, _, x, h2, rfl⟩
    congr 1
    cases s
    simp only at h1
    subst h1
    rfl
theorem AStep_N {st : St} {op : Op} {dst : Option Tmp} (hc : cls op = 0) {s : St} (h : AStep P GE op dst st s) (rows' : List Row) : s.rows = st.rows ∧ AStep P GE op dst { st with rows := rows' } { s with rows := rows' } := by
  unfold AStep AOp at h ⊢
  split at h
  · simp [cls] at hc
  · rename_i op hop
    obtain ⟨s', x, hx, rfl⟩ := h
    obtain ⟨rfl, h2⟩ := aexec_N hc hx rows'
    exact ⟨put_rows _ _ _, _, x, h2, put_with _ _ _ _⟩
theorem AStep_R {st : St} {op : Op} {dst : Option Tmp} (hc : cls op = 1) {s : St} (h : AStep P GE op dst st s) (new : List Row) : s.rows = st.rows ∧ AStep P GE op dst { st with rows := st.rows ++ new } { s with rows := st.rows ++ new } := by
  unfold AStep AOp at h ⊢
  split at h
  · rename_i f args ats
    obtain ⟨r, hcall, rfl⟩ := h
    refine ⟨put_rows _ _ _, r, ?_, put_with _ _ _ _⟩
    have hev : eval GE ({ st with rows := st.rows ++ new } : St) = eval GE st := funext (eval_rows st _)
    rw [hev]
    obtain ⟨g, hg, hh⟩ := hcall
    refine ⟨g, hg, ?_⟩
    rcases hh with ⟨a', h1, h2⟩ | ⟨a', h1, h2⟩ | ⟨a', h1, h2⟩
    · exact .inl ⟨a', fzs_app h1, h2⟩
    · exact .inr (.inl ⟨a', fzs_app h1, h2⟩)
    · exact .inr (.inr ⟨a', fzs_app h1, h2⟩)
  · rename_i op hop
    obtain ⟨s', x, hx, rfl⟩ := h
    obtain ⟨rfl, h2⟩ := aexec_R hc (fun c f he hc' => hop f c.args c.argTypes (by rw [he, ← hc'])) hx new
    exact ⟨put_rows _ _ _, _, x, h2, put_with _ _ _ _⟩
theorem AStep_A {st : St} {op : Op} {dst : Option Tmp} (hc : cls op = 2) {s : St} (h : AStep P GE op dst st s) : ∃ new, s.rows = st.rows ++ new := by
  unfold AStep AOp at h
  split at h
  · simp [cls] at hc
  · obtain ⟨s', x, hx, rfl⟩ := h
    rw [put_rows]
    exact aexec_A hc hx
end
end Go.Ax
set_option linter.unusedVariables false
set_option linter.unusedSimpArgs false
namespace Go.Ax
open Go.RowKit
section
variable {P : Program} {GE : Nat → Option (List AV)} {ops : Array Oper}
theorem looks_op {o : Oper} {t : Tmp} (h : t ∉ o.looksAt ops) {x : Operand} (hx : x ∈ o.op.operands) : x ≠ .tmp t := fun he => h (by
  subst he
  exact List.mem_append_left _ (List.mem_filterMap.2 ⟨.tmp t, by simpa using hx, rfl⟩))
theorem looks_guard {o : Oper} {t : Tmp} (h : t ∉ o.looksAt ops) {j : Nat} {want : Bool} (hg : o.guard = some (j, want)) : ∀ d, (ops[j]?).bind (·.dst) = some d → d ≠ t := fun d hd he => h (by
  subst he
  refine List.mem_append_right _ ?_
  simp [hg, hd])
theorem gval_congr {st1 st2 : St} {j : Nat} (h : ∀ d, (ops[j]?).bind (·.dst) = some d → st1.get d = st2.get d) : gval ops st1 j = gval ops st2 j := by
  unfold gval
  split
  · rename_i d hd; rw [h d hd]
  · rfl
theorem get_put_ne {st : St} {d : Option Tmp} {v : AV} {t : Tmp} (h : ∀ e, d = some e → t ≠ e) : (st.put d v).get t = st.get t := by
  cases d with
  | none => rfl
  | some e => simp only [St.get, St.put, List.getD, List.getElem?_set_ne (Ne.symm (h e rfl))]
theorem AGStep_congr {st1 st2 : St} {o : Oper} (hr : st1.rows = st2.rows) (he : ∀ x ∈ o.op.operands, eval GE st1 x = eval GE st2 x)
    (hg : ∀ j want, o.guard = some (j, want) → gval ops st1 j = gval ops st2 j) {s1 : St} (h : AGStep P GE ops o st1 s1) :
    ∃ rows' x, s1 = ({ st1 with rows := rows' } : St).put o.dst x ∧ AGStep P GE ops o st2 (({ st2 with rows := rows' } : St).put o.dst x) := by
  unfold AGStep AGOp at h ⊢
  cases hgd : o.guard with
  | none => simp only [hgd] at h ⊢; exact AStep_congr hr he h
  | some jw =>
    obtain ⟨j, want⟩ := jw
    simp only [hgd] at h ⊢
    rw [← hg j want hgd]
    cases hv : gval ops st1 j with
    | none => simp [hv] at h
    | some b =>
      simp only [hv] at h ⊢
      by_cases hb : b = some want
      · rw [if_pos hb] at h
        obtain ⟨rows', x, h1, h2⟩ := AStep_congr hr he h
        exact ⟨rows', x, h1, by rw [if_pos hb]; exact h2⟩
      · rw [if_neg hb] at h
        exact ⟨st1.rows, .tup [], h.symm, by rw [if_neg hb, hr]⟩
theorem AGStep_N {st : St} {o : Oper} (hc : cls o.op = 0) {s : St} (h : AGStep P GE ops o st s) (rows' : List Row) : s.rows = st.rows ∧ AGStep P GE ops o { st with rows := rows' } { s with rows := rows' } := by
  unfold AGStep AGOp at h ⊢
  cases hgd : o.guard with
  | none => simp only [hgd] at h ⊢; exact AStep_N hc h rows'
  | some jw =>
    obtain ⟨j, want⟩ := jw
    simp only [hgd] at h ⊢
    have hgv : gval ops ({ st with rows := rows' } : St) j = gval ops st j := gval_congr fun _ _ => rfl
    rw [hgv]
    cases hv : gval ops st j with
    | none => simp [hv] at h
    | some b =>
      simp only [hv] at h ⊢
      by_cases hb : b = some want
      · rw [if_pos hb] at h ⊢; exact AStep_N hc h rows'
      · rw [if_neg hb] at h ⊢; subst h; exact ⟨put_rows _ _ _, put_with _ _ _ _⟩
theorem AGStep_R {st : St} {o : Oper} (hc : cls o.op = 1) {s : St} (h : AGStep P GE ops o st s) (new : List Row) : s.rows = st.rows ∧ AGStep P GE ops o { st with rows := st.rows ++ new } { s with rows := st.rows ++ new } := by
  unfold AGStep AGOp at h ⊢
  cases hgd : o.guard with
  | none => simp only [hgd] at h ⊢; exact AStep_R hc h new
  | some jw =>
    obtain ⟨j, want⟩ := jw
    simp only [hgd] at h ⊢
    have hgv : gval ops ({ st with rows := st.rows ++ new } : St) j = gval ops st j := gval_congr fun _ _ => rfl
    rw [hgv]
    cases hv : gval ops st j with
    | none => simp [hv] at h
    | some b =>
      simp only [hv] at h ⊢
      by_cases hb : b = some want
      · rw [if_pos hb] at h ⊢; exact AStep_R hc h new
      · rw [if_neg hb] at h ⊢; subst h; exact ⟨put_rows _ _ _, put_with _ _ _ _⟩
theorem AGStep_A {st : St} {o : Oper} (hc : cls o.op = 2) {s : St} (h : AGStep P GE ops o st s) : ∃ new, s.rows = st.rows ++ new := by
  unfold AGStep AGOp at h
  cases hgd : o.guard with
  | none => simp only [hgd] at h; exact AStep_A hc h
  | some jw =>
    obtain ⟨j, want⟩ := jw
    simp only [hgd] at h
    cases hv : gval ops st j with
    | none => simp [hv] at h
    | some b =>
      simp only [hv] at h
      by_cases hb : b = some want
      · rw [if_pos hb] at h; exact AStep_A hc h
      · rw [if_neg hb] at h; subst h; exact ⟨[], by rw [put_rows]; simp⟩
theorem put_len (s : St) (d : Option Tmp) (v : AV) : (s.put d v).tmps.length = s.tmps.length := by cases d <;> simp [St.put]
theorem put_ge {s : St} {d : Nat} (h : s.tmps.length ≤ d) (u : AV) : s.put (some d) u = s := by
  simp only [St.put]
  rw [List.set_eq_of_length_le h]
theorem put_inj {s : St} {d : Nat} (h : d < s.tmps.length) {u v : AV} (he : s.put (some d) u = s.put (some d) v) : u = v := by
  have := congrArg (fun s : St => s.tmps[d]?) he
  simpa [St.put, h] using this
/-- May the one be done behind the other one as well as ahead of it? -/
def compat (i j : Nat) : Bool := i == 0 || j == 0 || (i == 1 && (j == 1 || j == 2))
theorem AGStep_comm {oi oj : Oper} (hap : oi.apart ops oj = true) (hcp : compat (cls oi.op) (cls oj.op) = true) {st s1 s2 : St} (h1 : AGStep P GE ops oi st s1) (h2 : AGStep P GE ops oj s1 s2) :
    ∃ s1', AGStep P GE ops oj st s1' ∧ AGStep P GE ops oi s1' s2 := by
  obtain ⟨a1, a2, a3⟩ := Oper.apart_spec hap
  -- the two write different slots, and neither looks at the other's
  obtain ⟨r1, xi, rfl, _⟩ := AGStep_congr (st2 := st) rfl (fun _ _ => rfl) (fun _ _ _ => rfl) h1
  obtain ⟨r2, xj, rfl, _⟩ := AGStep_congr (st2 := ({ st with rows := r1 } : St).put oi.dst xi) rfl (fun _ _ => rfl) (fun _ _ _ => rfl) h2
  have ei : ∀ (s : St) (x : Operand), x ∈ oj.op.operands → eval GE (s.put oi.dst xi) x = eval GE s x := fun s x hx => eval_put fun t ht => looks_op (a1 t ht) hx
  have ej : ∀ (s : St) (x : Operand), x ∈ oi.op.operands → eval GE (s.put oj.dst xj) x = eval GE s x := fun s x hx => eval_put fun t ht => looks_op (a3 t ht) hx
  have gi : ∀ (s : St) (j : Nat) (want : Bool), oj.guard = some (j, want) → gval ops (s.put oi.dst xi) j = gval ops s j := fun s j want hg => gval_congr fun d hd => get_put_ne fun e he => looks_guard (a1 e he) hg d hd
  have gj : ∀ (s : St) (j : Nat) (want : Bool), oi.guard = some (j, want) → gval ops (s.put oj.dst xj) j = gval ops s j := fun s j want hg => gval_congr fun d hd => get_put_ne fun e he => looks_guard (a3 e he) hg d hd
  have hcomm : ∀ (s : St) (v u : AV), (s.put oi.dst v).put oj.dst u = (s.put oj.dst u).put oi.dst v := fun s v u => put_comm s v u a2
  -- the end of both
  have hend : (({ ({ st with rows := r1 } : St).put oi.dst xi with rows := r2 } : St).put oj.dst xj) = (({ st with rows := r2 } : St).put oj.dst xj).put oi.dst xi := by
    rw [← put_with, hcomm]
  have hrw : ∀ (s : St) (d : Option Tmp) (v : AV), (s.put d v).rows = s.rows := put_rows
  -- 'oj' first: from st with rows r1
  have hj1 : AGStep P GE ops oj ({ st with rows := r1 } : St) (({ st with rows := r2 } : St).put oj.dst xj) := by
    obtain ⟨r2', xj', hs, hst⟩ := AGStep_congr (st2 := ({ st with rows := r1 } : St)) (put_rows _ _ _) (fun x hx => ei _ x hx) (fun j want hg => gi _ j want hg) h2
    have hr2 : r2' = r2 := by
      have := congrArg St.rows hs
      simp only [put_rows] at this
      exact this.symm
    subst hr2
    cases hd : oj.dst with
    | none => rw [hd] at hst; simpa [St.put] using hst
    | some d =>
      rw [hd] at hs hst
      by_cases hlt : d < st.tmps.length
      · have hx : xj = xj' := put_inj (s := ({ ({ st with rows := r1 } : St).put oi.dst xi with rows := r2' } : St)) (by rw [show ({ ({ st with rows := r1 } : St).put oi.dst xi with rows := r2' } : St).tmps.length = (({ st with rows := r1 } : St).put oi.dst xi).tmps.length from rfl, put_len]; exact hlt) hs
        subst hx
        exact hst
      · have : ∀ (u : AV), ({ st with rows := r2' } : St).put (some d) u = ({ st with rows := r2' } : St) := fun u => put_ge (s := { st with rows := r2' }) (Nat.le_of_not_lt hlt) u
        rw [this] at hst ⊢
        exact hst
  have hcp' : cls oi.op = 0 ∨ cls oj.op = 0 ∨ (cls oi.op = 1 ∧ (cls oj.op = 1 ∨ cls oj.op = 2)) := by
    simp only [compat, Bool.or_eq_true, Bool.and_eq_true, beq_iff_eq] at hcp
    rcases hcp with (h | h) | h
    · exact .inl h
    · exact .inr (.inl h)
    · exact .inr (.inr h)
  -- then 'oi' from there
  have hi_of : ∀ (rows0 rows3 : List Row), AGStep P GE ops oi ({ st with rows := rows0 } : St) (({ st with rows := rows3 } : St).put oi.dst xi) →
      AGStep P GE ops oi (({ st with rows := rows0 } : St).put oj.dst xj) ((({ st with rows := rows3 } : St).put oj.dst xj).put oi.dst xi) := fun rows0 rows3 hs => by
    obtain ⟨r', x', hs', hst'⟩ := AGStep_congr (st2 := ({ st with rows := rows0 } : St).put oj.dst xj) (put_rows _ _ _).symm (fun x hx => (ej _ x hx).symm) (fun j want hg => (gj _ j want hg).symm) hs
    have hr' : r' = rows3 := by
      have := congrArg St.rows hs'
      simp only [put_rows] at this
      exact this.symm
    subst hr'
    rw [← put_with] at hst'
    cases hd : oi.dst with
    | none => rw [hd] at hst'; simpa [St.put] using hst'
    | some d =>
      rw [hd] at hs' hst'
      by_cases hlt : d < st.tmps.length
      · have hx : xi = x' := put_inj (s := ({ st with rows := r' } : St)) hlt hs'
        subst hx
        exact hst'
      · have hlen : ((({ st with rows := r' } : St).put oj.dst xj).tmps).length ≤ d := by rw [put_len]; exact Nat.le_of_not_lt hlt
        rw [put_ge hlen] at hst' ⊢
        exact hst'
  rw [hend]
  have hst_self : ({ st with rows := st.rows } : St) = st := rfl
  rcases hcp' with hN | hN | ⟨hR, hj⟩
  · -- 'oi' looks at no row
    have h1' := AGStep_N hN h1 r2
    have hr1 : r1 = st.rows := by have := h1'.1; simpa [put_rows] using this
    subst hr1
    refine ⟨({ st with rows := r2 } : St).put oj.dst xj, hj1, ?_⟩
    exact hi_of r2 r2 (by have := h1'.2; rw [← put_with] at this; exact this)
  · -- 'oj' looks at no row
    have h2' := AGStep_N hN h2 r1
    have hr2 : r2 = r1 := by have := h2'.1; simpa [put_rows] using this
    subst hr2
    have h3 := AGStep_N hN hj1 st.rows
    refine ⟨({ st with rows := st.rows } : St).put oj.dst xj, by have := h3.2; rw [← put_with] at this; exact this, ?_⟩
    exact hi_of st.rows r2 h1
  · have h1r := AGStep_R hR h1 []
    have hr1 : r1 = st.rows := by have := h1r.1; simpa [put_rows] using this
    subst hr1
    have hnew : ∃ new, r2 = st.rows ++ new := by
      rcases hj with hj | hj
      · have := (AGStep_R hj h2 []).1
        simp only [put_rows] at this
        exact ⟨[], by simpa using this⟩
      · obtain ⟨new, hn⟩ := AGStep_A hj h2
        simp only [put_rows] at hn
        exact ⟨new, hn⟩
    obtain ⟨new, rfl⟩ := hnew
    refine ⟨({ st with rows := st.rows ++ new } : St).put oj.dst xj, hj1, ?_⟩
    have h4 := (AGStep_R hR h1 new).2
    rw [← put_with] at h4
    exact hi_of _ _ h4
end
end Go.Ax
