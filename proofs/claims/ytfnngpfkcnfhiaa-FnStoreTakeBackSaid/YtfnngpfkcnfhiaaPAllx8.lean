-- PRINTED by print.py (a twelfth state) out of the translation. Not trusted: Lean checks it.
import Derived.Test.YtfnngpfkcnfhiaaPAllx0
import Derived.Test.YtfnngpfkcnfhiaaPAllx5
import Derived.Test.YtfnngpfkcnfhiaaPAllx6
import Derived.Test.YtfnngpfkcnfhiaaPAllx7
namespace Go.Proofs.Ytfnngpfkcnfhiaa.PAll
open Go.RowKit Go.Proofs.YtfnngpfkcnfhiaaW.PrintWords Go.Proofs.YtfnngpfkcnfhiaaW.PrintLast Go.Proofs.YtfnngpfkcnfhiaaW.PrintMore
attribute [local go_sem] max2_int min2_int max_two min_two max_three min_three max_four min_four   -- for this text's walks alone
set_option linter.unusedVariables false
set_option linter.unusedSimpArgs false

/-! #### rows of lots as cells; copy at elements of several cells -/
def lc (x : S30) : List Value := [.int .i64 x.f0, .int .i64 x.f1, .int .i64 x.f2]
def lcs : List (S30) → List Value
 | [] => []
 | x :: r => lc x ++ lcs r
theorem lcs_len : ∀ l : List (S30), (lcs l).length = l.length * 3
 | [] => rfl
 | x :: r => by
  rw [lcs, List.length_append, lcs_len r, List.length_cons, show (lc x).length = 3 from rfl]
  omega
theorem lcs_app : ∀ a b : List (S30), lcs (a ++ b) = lcs a ++ lcs b
 | [], b => rfl
 | x :: r, b => by rw [List.cons_append, lcs, lcs, lcs_app r b, List.append_assoc]
theorem lcs_one : ∀ (l : List (S30)) (u : Value), u ∈ lcs l → u.oneCell' = true
 | [], u, h => by cases h
 | x :: r, u, h => by
  rw [lcs, List.mem_append] at h
  rcases h with h | h
  ·simp only [lc, List.mem_cons, List.not_mem_nil, or_false] at h
   rcases h with rfl | rfl | rfl <;> rfl
  ·exact lcs_one r u h
theorem lcs_drop (l : List (S30)) (i : Nat) : (lcs l).drop (i * 3) = lcs (l.drop i) := by
 by_cases h : i ≤ l.length
 ·have e : lcs l = lcs (l.take i) ++ lcs (l.drop i) := by rw [← lcs_app, List.take_append_drop]
  rw [e, List.drop_append_of_le_length (by rw [lcs_len, List.length_take]; omega), List.drop_eq_nil_of_le (by rw [lcs_len, List.length_take]; omega), List.nil_append]
 ·rw [List.drop_eq_nil_of_le (by rw [lcs_len]; omega), List.drop_eq_nil_of_le (by omega)]
  rfl
theorem lcs_take (l : List (S30)) (i : Nat) : (lcs l).take (i * 3) = lcs (l.take i) := by
 by_cases h : i ≤ l.length
 ·have e : lcs l = lcs (l.take i) ++ lcs (l.drop i) := by rw [← lcs_app, List.take_append_drop]
  rw [e, List.take_append_of_le_length (by rw [lcs_len, List.length_take]; omega), List.take_of_length_le (by rw [lcs_len, List.length_take]; omega)]
 ·rw [List.take_of_length_le (by rw [lcs_len]; omega), List.take_of_length_le (by omega)]
theorem reps_lcs {R : S30 → List Value → Prop} (hR : ∀ p c, R p c → c = lc p) : ∀ (ps : List (S30)) (cs : List Value), Reps R 3 ps cs → cs = lcs ps
 | [], cs, h => List.eq_nil_of_length_eq_zero (by simpa using h.1)
 | p :: r, cs, h => by
  have h0 := hR _ _ (h.2 0 p rfl)
  rw [Nat.zero_mul, List.drop_zero] at h0
  have hr : Reps R 3 r (cs.drop 3) := by
   refine ⟨by rw [List.length_drop, h.1, List.length_cons]; omega, fun j q hq => ?_⟩
   have := h.2 (j + 1) q (by simpa using hq)
   rwa [List.drop_drop, show 3 + j * 3 = (j + 1) * 3 by omega]
  rw [lcs, ← reps_lcs hR r _ hr, ← h0, List.take_append_drop]
theorem lcs_reps {R : S30 → List Value → Prop} (hR : ∀ p, R p (lc p)) (ps : List (S30)) : Reps R 3 ps (lcs ps) := by
 refine ⟨lcs_len ps, fun j p hj => ?_⟩
 have hl := (List.getElem?_eq_some_iff.1 hj).1
 have e : ps.drop j = p :: ps.drop (j + 1) := by
  rw [List.drop_eq_getElem_cons hl]
  congr 1
  exact (List.getElem?_eq_some_iff.1 hj).2
 rw [lcs_drop, e, lcs]
 exact hR p
theorem own_of_lots {w : World} {base : Nat} {ok : Nat → Prop} {v : Value} {xs : List (S30)} (h : Kd.R k30 30 w base ok v xs) : w.ownsRow base 30 3 v xs.length (lcs xs) := by
 obtain ⟨_, inner, ho, hr⟩ := h
 rw [← reps_lcs (fun p c hc => k30_openM hc) xs inner hr]
 exact ho
theorem lots_of_own {w : World} {base : Nat} {ok : Nat → Prop} {v : Value} {xs : List (S30)} (ho : w.ownsRow base 30 3 v xs.length (lcs xs)) (hok : ∀ k, v.ownBlock = some k → ok k) : Kd.R k30 30 w base ok v xs :=
 ⟨hok, lcs xs, ho, lcs_reps (fun p => k30_mkM w base _ p) xs⟩
/-- The cells of a row that came in. -/
theorem lots_came {w : World} {A : Option Addr} {xs : List (S30)} (h : Kd.C k30 w A xs.length xs) (h0 : 0 < xs.length) : ∃ ad, A = some ad ∧ ∀ j u, (lcs xs)[j]? = some u → w.cell? (ad.add j) = some u := by
 obtain ⟨ad, e, hc⟩ := h.2.2 h0
 refine ⟨ad, e, fun j u hj => ?_⟩
 have hl := (List.getElem?_eq_some_iff.1 hj).1
 rw [lcs_len] at hl
 have hq : j / 3 < xs.length := by omega
 obtain ⟨c, hcl, hK, hcell⟩ := hc (j / 3) xs[j / 3] (List.getElem?_eq_getElem hq)
 have hcell' : ∀ i u, c[i]? = some u → w.cell? (ad.add (j / 3 * 3 + i)) = some u := hcell
 have ec : c = lc xs[j / 3] := k30_open hK
 have := hcell' (j % 3) u (by
  have e2 : (lcs xs)[j]? = ((lcs xs).drop (j / 3 * 3))[j % 3]? := by rw [List.getElem?_drop, show j / 3 * 3 + j % 3 = j by omega]
  rw [e2, lcs_drop, List.drop_eq_getElem_cons hq, lcs, List.getElem?_append_left (by rw [show (lc xs[j / 3]).length = 3 from rfl]; omega)] at hj
  rw [ec]
  exact hj)
 rwa [show j / 3 * 3 + j % 3 = j by omega] at this
/-- copy, at elements of several cells, into a row of plain memory: what is copied is read first. -/
theorem run_copy_rows {P : Program} (w : World) (dT sT ty elem : TypeId) (size g o dLen dCap : Nat) (a : Addr) (sLen sCap : Nat) (cur : Array Value) (t : TypeId) (cs : List Value) (n : Nat)
  (hu : P.underlying dT = some (.slice elem)) (hs : (P.info? elem).map (·.size) = some size)
  (hg : w.heap[g]? = some (.cells cur t (0, 0))) (hn : n = Nat.min sLen dLen) (hcl : cs.length = n * size)
  (hsrc : ∀ j v, cs[j]? = some v → w.cell? (a.add j) = some v) (hfit : o + cs.length ≤ cur.size) (h1 : ∀ v ∈ cs, v.oneCell' = true) :
  (Builtin.copy_ #[dT, sT] ty #[.slice (some ⟨g, o, none⟩) dLen dCap, .slice (some a) sLen sCap]).run P w =
   .ok (goInt n) (w.setRow g (cur.toList.take o ++ cs ++ cur.toList.drop (o + cs.length)).toArray) := by
 have hl := run_loadCells_list (P := P) w a cs hsrc
 have hst := run_storeCells_at P g o t cs 0 cur w hg (by simpa using hfit) h1
 rw [hcl] at hl
 cases hq : P.info? elem with
 | none => simp [hq] at hs
 | some i =>
  have hi : i.size = size := by simpa [hq] using hs
  simp [Builtin.copy_, run_underlying hu, Builtin.lenOf, Builtin.firstCells, sizeOf, typeInfo, hq, hi, ← hn, hl, hst]
theorem appendLots {ops : Array Oper} {rest : List Oper} {o : Oper} {a : Act} {Q : Exit → Act → World → Prop} {w0 W : World} (base : Nat) (hgd : o.guard = none) (s x : Operand)
  (ho : o.op = .call { callee := .builtin .append, args := #[s, x], argTypes := #[26, 26] }) (v : Value) (xs ys : List (S30)) (A : Option Addr) (m c : Nat) (hs : a.eval s = v) (hx : a.eval x = .slice A m c)
  (HO : Kd.R k30 30 W base (fun _ => True) v xs) (HR : Kd.C k30 W A m ys) (HB : Below base w0 W) (hbase : base ≤ W.heap.size) (hl : xs.length + m < 5864062014805)
  (h : ∀ v1 w1, Kd.R k30 30 w1 base (fun _ => True) v1 (xs ++ ys) → Below base w0 w1 → W.grownBy w1 v.ownBlock → (v1.ownBlock = v.ownBlock ∨ ∃ b, v1.ownBlock = some b ∧ W.heap.size ≤ b) → wpList Try.prog ops Q rest (a.put o.dst v1) w1) :
  wpList Try.prog ops Q (o :: rest) a W :=
 Kd.R_append_rows k30 base hgd s x 26 30 _ 24 ho Try.underlying26 info30 rfl (by decide) (by decide) v xs ys A m c (fun _ => True) (fun _ => False) hs hx HO HR (fun x cs hx => by rw [k30_open hx]; exact k30_mkM _ _ _ _) (fun _ h => h.elim) (fun _ _ => trivial) HB hbase (by omega) h
/-! ### slices.Clone at lots: by hand -/
set_option maxHeartbeats 8000000 in
set_option maxRecDepth 100000 in
theorem cloneLots.calls (A0 : Option Addr) (c0 : Nat) (l0 : List (S30)) (w : World) (hr0 : Kd.C k30 w A0 l0.length l0) (hc0 : l0.length ≤ c0) (hlen : l0.length < 5864062014805) :
  Calls Try.prog 27 #[.slice A0 l0.length c0] w fun e w' => ∃ v, e = .returned v ∧ Kd.R k30 30 w' w.heap.size (fun _ => True) v l0 ∧ Below w.heap.size w w' := by
 have hu30 := Try.underlying30
 have hu26 := Try.underlying26
 have ru26 := run_underlying (P := Try.prog) Try.underlying26
 have qnil : ∀ (w : World) (a : Option Addr) (n c n' c' : Nat), (binOp .eql 26 (.slice a n c) (.slice none n' c')).run Try.prog w = .ok (.bool a.isNone) w := fun w a n c n' c' => Lib.run_eql_slice_nil w _ _ a n c n' c' Try.underlying26
 have HR0 := Aside0.mk hr0
 have HL := Aside0.mk hlen
 clear hr0 hlen
 rcases A0 with _ | ad
 ·have h0 : l0.length = 0 := by
   rcases Nat.eq_zero_or_pos l0.length with h | h
   ·exact h
   ·obtain ⟨ad, e, _⟩ := HR0.out.2.2 h
    cases e
  obtain rfl := List.eq_nil_of_length_eq_zero h0
  clear h0 HR0 HL hc0
  go_enter Try.func27, Try.ntmps27
  go_wp2
  go_ret
  exact ⟨_, rfl, Kd.R_nil _ _ _ _ _, Below.refl _ _⟩
 ·go_enter Try.func27, Try.ntmps27
  go_wp2_with (first
   | ((with_reducible refine gate_dst (N := 5) rfl ?_); refine Kd.R_lit k30 _ 30 ?hg (N := 5) ?hd (xs := ([] : List (S30))) (inner := []) (ok := fun _ => True) (okp := fun _ => True) ?hr ?hp (fun _ hk => hk) trivial (Below.refl _ _) (Nat.le_refl _) (by simp) ?_; (case hd => rfl); (case hg => rfl); (case hr => first | (go_simp; done) | (go_simp; rfl)); (case hp => exact (Reps.none _ _)); intro v5 w5 ho hb hg_ hnew_; clear hg_ hnew_; have HO := Aside0.mk ho; have HB := Aside0.mk hb; clear ho hb)
   | ((with_reducible refine gate_builtin (b := .append) (xs := #[.tmp 5, .tmp 6]) rfl ?_); at_builtin; refine appendLots (w0 := w) w.heap.size rfl (.tmp 5) (.tmp 6) rfl v5 [] l0 (some ad) _ _ rfl rfl HO.out (Kd.C_below HR0.out HB.out) HB.out HB.out.size (by have := HL.out; rw [List.length_nil]; omega) ?_; intro v1 w1 ho hb hg hat; clear hg hat; have HO1 := Aside0.mk ho; have HB1 := Aside0.mk hb; clear ho hb))
  go_ret
  exact ⟨_, rfl, HO1.out, HB1.out⟩
/-! ### slices.Insert of one lot: by hand, a road each -/
set_option maxHeartbeats 8000000 in
set_option maxRecDepth 100000 in
/-- at the end -/
theorem insertLot.end_ (v vv : Value) (xs : List (S30)) (x : S30) (base : Nat) (w : World) (ho : w.ownsRow base 30 3 v xs.length (lcs xs)) (hb : base ≤ w.heap.size) (hlen : xs.length + 1 < 5864062014805) (hv : w.ownsRow base 30 3 vv 1 (lc x)) :
  Calls Try.prog 30 #[v, .int .i64 (xs.length : Nat), vv] w fun e w' => ∃ v', e = .returned v' ∧ w'.ownsRow base 30 3 v' (xs.length + 1) (lcs (xs ++ [x])) ∧ w.grownBy w' v.ownBlock := by
 have hu30 := Try.underlying30
 have hu26 := Try.underlying26
 have ru26 := run_underlying (P := Try.prog) Try.underlying26
 have HO := Aside0.mk (lots_of_own (ok := fun _ => True) ho (fun _ _ => trivial))
 have HV := Aside0.mk (lots_of_own (xs := [x]) (ok := fun _ => True) (by rw [lcs, lcs, List.append_nil]; exact hv) (fun _ _ => trivial))
 have HL := Aside0.mk hlen
 have HBS := Aside0.mk hb
 clear ho hv hlen hb
 obtain ⟨g1, c1, rfl, hvc⟩ : ∃ g1 c1, vv = .slice (some ⟨g1, 0, none⟩) 1 c1 ∧ Kd.C k30 w (some ⟨g1, 0, none⟩) 1 [x] := by
  obtain ⟨g1, c1, rfl, _, _, _⟩ := Kd.R_form HV.out (by simp)
  exact ⟨g1, c1, rfl, (Kd.R_reads' HV.out).2.2⟩
 have HVC := Aside0.mk hvc
 clear hvc HV
 obtain ⟨A, c, rfl, hc⟩ := Kd.R_reads HO.out
 obtain ⟨i0, hi0, _, hsz0, _⟩ := info_parts info30
 have hcut := cut_from (P := Try.prog) 26 30 .i64 Try.underlying26 hi0 3 hsz0 A xs.length c (xs.length : Nat) (by omega) (by omega)
 generalize (if c = ((xs.length : Nat) : Int).toNat then A else A.map (·.add (((xs.length : Nat) : Int).toNat * 3))) = A2 at hcut
 clear hc hi0 hsz0
 go_enter Try.func30, Try.ntmps30
 go_wp2_with (first
  | ((with_reducible refine gate_builtin (b := .append) (xs := #[.tmp 23, .tmp 24]) rfl ?_); at_builtin; refine appendLots (w0 := w) base rfl (.tmp 23) (.tmp 24) rfl (.slice A xs.length c) xs [x] _ _ _ rfl rfl HO.out HVC.out (Below.refl _ _) HBS.out (by have := HL.out; omega) ?_; intro v1 w1 ho hb hg hat; clear hb hat; have HO1 := Aside0.mk ho; have HG1 := Aside0.mk hg; clear ho hg))
 go_ret
 exact ⟨_, rfl, by have := own_of_lots HO1.out; rwa [List.length_append, List.length_singleton] at this, HG1.out⟩
theorem splice_behind (L b c : List Value) (p q : Nat) (hl : p + 3 + q ≤ L.length) (hb : b.length = 3) (hc : c.length = q) :
  let L2 := L.take p ++ b ++ L.drop (p + 3)
  let L3 := L2.take (p + 3) ++ c ++ L2.drop (p + 3 + q)
  L2.length = L.length ∧ L3.length = L.length ∧ L3.take (p + 3 + q) = L.take p ++ b ++ c := by
 intro L2 L3
 have ht : (L.take p).length = p := by rw [List.length_take]; omega
 have h2 : L2.length = L.length := by
  simp only [L2, List.length_append, List.length_drop, ht, hb]
  omega
 have e2 : L2.take (p + 3) = L.take p ++ b := List.take_left' (by rw [List.length_append, ht, hb])
 have h3 : L3 = (L.take p ++ b ++ c) ++ L2.drop (p + 3 + q) := by simp only [L3, e2]
 have hp : (L.take p ++ b ++ c).length = p + 3 + q := by rw [List.length_append, List.length_append, ht, hb, hc]
 refine ⟨h2, ?_, ?_⟩
 ·rw [h3, List.length_append, hp, List.length_drop, h2]
  omega
 ·rw [h3]
  exact List.take_left' hp
theorem splice_ahead (L b c : List Value) (p q : Nat) (hl : p + 3 + q ≤ L.length) (hb : b.length = 3) (hc : c.length = q) :
  let L2 := L.take (p + 3) ++ c ++ L.drop (p + 3 + q)
  let L3 := L2.take p ++ b ++ L2.drop (p + 3)
  L2.length = L.length ∧ L3.length = L.length ∧ L3.take (p + 3 + q) = L.take p ++ b ++ c := by
 intro L2 L3
 have ht : (L.take (p + 3)).length = p + 3 := by rw [List.length_take]; omega
 have h2 : L2.length = L.length := by
  simp only [L2, List.length_append, List.length_drop, ht, hc]
  omega
 have hp0 : (L.take p).length = p := by rw [List.length_take]; omega
 have e1 : L2.take p = L.take p := by
  simp only [L2, List.append_assoc]
  rw [List.take_append_of_le_length (by omega), List.take_take, Nat.min_eq_left (by omega)]
 have e2 : L2.drop (p + 3) = c ++ L.drop (p + 3 + q) := by
  simp only [L2, List.append_assoc]
  exact List.drop_left' ht
 have h3 : L3 = (L.take p ++ b ++ c) ++ L.drop (p + 3 + q) := by simp only [L3, e1, e2, List.append_assoc]
 have hp : (L.take p ++ b ++ c).length = p + 3 + q := by rw [List.length_append, List.length_append, hp0, hb, hc]
 refine ⟨h2, ?_, ?_⟩
 ·rw [h3, List.length_append, hp, List.length_drop]
  omega
 ·rw [h3]
  exact List.take_left' hp
theorem lcs_put (xs : List (S30)) (x : S30) (i : Nat) : lcs (xs.take i ++ x :: xs.drop i) = (lcs xs).take (i * 3) ++ lc x ++ lcs (xs.drop i) := by
 rw [lcs_app, lcs, ← lcs_take, List.append_assoc]
theorem row_src {w : World} {base g n c : Nat} {cs : List Value} (h : w.ownsRow base 30 3 (.slice (some ⟨g, 0, none⟩) n c) n cs) : ∀ j u, cs[j]? = some u → w.cell? ⟨g, j, none⟩ = some u := fun j u hj => by
 have := World.ownsRow.cells h (g := g) rfl j u hj
 rwa [add_plain] at this
set_option maxHeartbeats 8000000 in
set_option maxRecDepth 100000 in
/-- ahead of an element, no room: a new row -/
theorem insertLot.grow (g n c : Nat) (vv : Value) (xs : List (S30)) (x : S30) (i base : Nat) (w : World) (hn : xs.length = n) (ho : w.ownsRow base 30 3 (.slice (some ⟨g, 0, none⟩) n c) n (lcs xs)) (hi : i < n) (hroom : c < n + 1) (hb : base ≤ w.heap.size) (hlen : n + 1 < 5864062014805) (hv : w.ownsRow base 30 3 vv 1 (lc x)) :
  Calls Try.prog 30 #[.slice (some ⟨g, 0, none⟩) n c, .int .i64 (i : Nat), vv] w fun e w' => ∃ v', e = .returned v' ∧ w'.ownsRow base 30 3 v' (n + 1) (lcs (xs.take i ++ x :: xs.drop i)) ∧ w.grownBy w' (some g) := by
 have hu30 := Try.underlying30
 have hu26 := Try.underlying26
 have ru26 := run_underlying (P := Try.prog) Try.underlying26
 obtain ⟨i0, hi0, hz0, hsz0, hby0⟩ := info_parts info30
 obtain ⟨hxl, hor⟩ := ho
 rcases hor with ⟨hv0, _⟩ | ⟨g', c', cur, hv0, hbg, hg, hnc, hcm, hcz, htk⟩
 ·cases hv0
 injection hv0 with ha _ hc'
 injection ha with ha
 injection ha with hgg _ _
 subst hgg hc'
 have hsrc := row_src ⟨hxl, .inr ⟨g, c, cur, rfl, hbg, hg, hnc, hcm, hcz, htk⟩⟩
 have hgw : g < w.heap.size := blk_lt hg
 obtain ⟨g1, c1, rfl, hvs, hg1⟩ : ∃ g1 c1, vv = .slice (some ⟨g1, 0, none⟩) 1 c1 ∧ (∀ j u, (lc x)[j]? = some u → w.cell? ⟨g1, j, none⟩ = some u) ∧ g1 < w.heap.size := by
  rcases hv.2 with ⟨_, h⟩ | ⟨g1, c1, cur1, rfl, _, h, _⟩
  ·cases h
  ·exact ⟨g1, c1, rfl, row_src hv, blk_lt h⟩
 have hcutA : ∀ W : World, (Instr.slice 26 (.slice (some ⟨g, 0, none⟩) n c) (some (.int .i64 (i : Int))) none none).run Try.prog W = .ok (.slice (some ⟨g, i * 3, none⟩) (n - i) (c - i)) W := fun W => by
  have := cut_from (P := Try.prog) 26 30 .i64 Try.underlying26 hi0 3 hsz0 (some ⟨g, 0, none⟩) n c (i : Int) (by omega) (by omega) W
  rw [Int.toNat_natCast, if_neg (by omega), Option.map_some, add_plain] at this
  exact this
 have hcutB : ∀ W : World, (Instr.slice 26 (.slice (some ⟨g, 0, none⟩) n c) none (some (.int .i64 (i : Int))) none).run Try.prog W = .ok (.slice (some ⟨g, 0, none⟩) i c) W := fun W => by
  have := cut_to (P := Try.prog) 26 30 .i64 Try.underlying26 hi0 (some ⟨g, 0, none⟩) n c (i : Int) (by omega) (by omega) hnc W
  rwa [Int.toNat_natCast] at this
 obtain ⟨G, hG⟩ : ∃ G, G = grownCap w (n + 1) c 30 := ⟨_, rfl⟩
 have hGn : n + 1 ≤ G := by rw [hG]; exact grownCap_ge w _ _ _
 have hGm : G ≤ maxLen := by rw [hG]; exact grownCap_le_maxLen w (n + 1) c 30 (by unfold maxLen; omega)
 obtain ⟨H, hH⟩ : ∃ H, H = w.heap.size := ⟨_, rfl⟩
 have hcutC : ∀ W : World, (Instr.slice 26 (.slice (some ⟨H, 0, none⟩) (n + 1) G) (some (.int .i64 (i : Int))) none none).run Try.prog W = .ok (.slice (some ⟨H, i * 3, none⟩) (n + 1 - i) (G - i)) W := fun W => by
  have := cut_from (P := Try.prog) 26 30 .i64 Try.underlying26 hi0 3 hsz0 (some ⟨H, 0, none⟩) (n + 1) G (i : Int) (by omega) (by omega) W
  rw [Int.toNat_natCast, if_neg (by omega), Option.map_some, add_plain] at this
  exact this
 have hcutD : ∀ W : World, (Instr.slice 26 (.slice (some ⟨H, 0, none⟩) (n + 1) G) (some (.int .i64 ((i : Int) + 1))) none none).run Try.prog W = .ok (.slice (some ⟨H, (i + 1) * 3, none⟩) (n + 1 - (i + 1)) (G - (i + 1))) W := fun W => by
  have := cut_from (P := Try.prog) 26 30 .i64 Try.underlying26 hi0 3 hsz0 (some ⟨H, 0, none⟩) (n + 1) G ((i : Int) + 1) (by omega) (by omega) W
  rw [show ((i : Int) + 1).toNat = i + 1 by omega, if_neg (by omega), Option.map_some, add_plain] at this
  exact this
 have hold : (Builtin.firstCells i0.size i (.slice (some ⟨g, 0, none⟩) i c)).run Try.prog w.drew = .ok (lcs (xs.take i)).toArray w.drew := by
  rw [hsz0]
  refine run_firstCells_some w.drew 3 i ⟨g, 0, none⟩ i c (lcs (xs.take i)) (by rw [lcs_len, List.length_take]; omega) (fun j u hj => ?_)
  rw [← lcs_take, List.getElem?_take] at hj
  split at hj
  ·rw [add_plain]
   exact hsrc j u hj
  ·cases hj
 obtain ⟨ROW, hROW⟩ : ∃ ROW : Array Value, ROW = (lcs (xs.take i)).toArray ++ Builtin.zeroCells (Value.agg #[.int .i64 0, .int .i64 0, .int .i64 0]).cells (n + 1 - i) ++ Builtin.zeroCells (Value.agg #[.int .i64 0, .int .i64 0, .int .i64 0]).cells (G - (n + 1)) := ⟨_, rfl⟩
 have hkk : (n : Int) + 1 - (i : Int) = ((n + 1 - i : Nat) : Int) := by omega
 have hik : i + (n + 1 - i) = n + 1 := by omega
 have hrz : ∀ ty, (Builtin.append_ #[26, 3] ty #[.slice (some ⟨g, 0, none⟩) i c, .int .i64 ((n : Int) + 1 - (i : Int))]).run Try.prog w =
   .ok (.slice (some ⟨H, 0, none⟩) (n + 1) G) (w.drew.alloc (.cells ROW 30)) := fun ty => by
  have h := Lib.run_append_grow_zeros w 26 3 ty 30 i0 _ .i64 .i64 Try.underlying26 Try.underlying3 hi0 hz0 (some ⟨g, 0, none⟩) i c (lcs (xs.take i)) hold (n + 1 - i) (by omega) (by omega) (by omega) (by omega) (by rw [hby0]; omega) (by rw [hby0, hik]; exact growslice_fits hroom (by omega))
  rw [hik] at h
  rw [hkk, hROW, hH, hG]
  exact h
 have hRs : ROW.size = G * 3 := by
  rw [hROW]
  simp only [Array.size_append, List.size_toArray, lcs_len, List.length_take, size_zeroCells, show (Value.agg #[.int .i64 0, .int .i64 0, .int .i64 0]).cells.size = 3 from rfl]
  omega
 have hRt : ROW.toList.take (i * 3) = (lcs xs).take (i * 3) := by
  rw [hROW, lcs_take]
  simp only [Array.toList_append, List.append_assoc]
  exact List.take_left' (by rw [lcs_len, List.length_take]; omega)
 clear hold hkk hik
 obtain ⟨W1, hW1⟩ : ∃ W1, W1 = w.drew.alloc (.cells ROW 30) := ⟨_, rfl⟩
 have hH1 : W1.heap[H]? = some (.cells ROW 30 (0, 0)) := by rw [hW1, hH]; exact heap_alloc_new w.drew _
 have hO1 : ∀ k, k < w.heap.size → W1.heap[k]? = w.heap[k]? := fun k hk => by rw [hW1]; exact heap_alloc_old w.drew _ hk
 have hS := splice_behind ROW.toList (lc x) (lcs (xs.drop i)) (i * 3) ((n - i) * 3) (by rw [Array.length_toList, hRs]; omega) rfl (by rw [lcs_len, List.length_drop, hn])
 obtain ⟨R2, hR2⟩ : ∃ R2, R2 = ROW.toList.take (i * 3) ++ lc x ++ ROW.toList.drop (i * 3 + 3) := ⟨_, rfl⟩
 obtain ⟨R3, hR3⟩ : ∃ R3, R3 = R2.take (i * 3 + 3) ++ lcs (xs.drop i) ++ R2.drop (i * 3 + 3 + (n - i) * 3) := ⟨_, rfl⟩
 simp only [← hR2, ← hR3] at hS
 obtain ⟨hl2, hl3, ht3⟩ := hS
 have hszI : (Try.prog.info? 30).map (·.size) = some 3 := by rw [hi0]; simp [hsz0]
 have hcpA : ∀ (W : World), W.heap = W1.heap → ∀ ty dc, (Builtin.copy_ #[26, 26] ty #[.slice (some ⟨H, i * 3, none⟩) (n + 1 - i) dc, .slice (some ⟨g1, 0, none⟩) 1 c1]).run Try.prog W = .ok (goInt 1) (W.setRow H R2.toArray) := fun W hW ty dc => by
  have := run_copy_rows (P := Try.prog) W 26 26 ty 30 3 H (i * 3) (n + 1 - i) dc ⟨g1, 0, none⟩ 1 c1 ROW 30 (lc x) 1 Try.underlying26 hszI (by rw [hW]; exact hH1) (by simp only [Nat.min_def]; split <;> omega) rfl
   (fun j u hj => by
    rw [add_plain]
    have e : W.cell? ⟨g1, j, none⟩ = w.cell? ⟨g1, j, none⟩ := World.cell?_of_block (by rw [hW]; exact hO1 g1 hg1)
    rw [e]
    exact hvs j u hj)
   (by rw [show (lc x).length = 3 from rfl, hRs]; omega) (fun u hu => lcs_one [x] u (by rw [lcs, lcs, List.append_nil]; exact hu))
  rw [hR2]
  exact this
 have hcpB : ∀ (W : World), W.heap = (W1.setRow H R2.toArray).heap → ∀ ty dc sc, (Builtin.copy_ #[26, 26] ty #[.slice (some ⟨H, (i + 1) * 3, none⟩) (n + 1 - (i + 1)) dc, .slice (some ⟨g, i * 3, none⟩) (n - i) sc]).run Try.prog W = .ok (goInt ((n - i : Nat) : Int)) (W.setRow H R3.toArray) := fun W hW ty dc sc => by
  have h2 : W.heap[H]? = some (.cells R2.toArray 30 (0, 0)) := by rw [hW]; exact setRow_heap W1 H ROW _ 30 _ hH1
  have := run_copy_rows (P := Try.prog) W 26 26 ty 30 3 H ((i + 1) * 3) (n + 1 - (i + 1)) dc ⟨g, i * 3, none⟩ (n - i) sc R2.toArray 30 (lcs (xs.drop i)) (n - i) Try.underlying26 hszI h2 (by simp only [Nat.min_def]; split <;> omega) (by rw [lcs_len, List.length_drop, hn])
   (fun j u hj => by
    rw [add_at]
    have e : W.cell? ⟨g, i * 3 + j, none⟩ = w.cell? ⟨g, i * 3 + j, none⟩ := World.cell?_of_block (by
     rw [hW]
     exact (setRow_other W1 H g R2.toArray (by omega)).trans (hO1 g hgw))
    rw [e]
    exact hsrc _ u (by rwa [← lcs_drop, List.getElem?_drop] at hj))
   (by
    have e1 : (lcs (xs.drop i)).length = (n - i) * 3 := by rw [lcs_len, List.length_drop, hn]
    have e2 : R2.toArray.size = G * 3 := by simp [hl2, hRs]
    rw [e1, e2]
    omega) (fun u hu => lcs_one _ u hu)
  rw [hR3, show i * 3 + 3 = (i + 1) * 3 by omega]
  have e0 : R2.toArray.toList = R2 := by simp
  have e1 : (lcs (xs.drop i)).length = (n - i) * 3 := by rw [lcs_len, List.length_drop, hn]
  rw [e0, e1] at this
  exact this
 have hown : ∀ (W : World), W.heap = ((W1.setRow H R2.toArray).setRow H R3.toArray).heap → W.ownsRow base 30 3 (.slice (some ⟨H, 0, none⟩) (n + 1) G) (n + 1) (lcs (xs.take i ++ x :: xs.drop i)) := fun W hW => by
  refine ⟨by rw [lcs_len, List.length_append, List.length_cons, List.length_take, List.length_drop]; omega, .inr ⟨H, G, R3.toArray, rfl, by omega, ?_, hGn, hGm, ?_, ?_⟩⟩
  ·rw [hW]
   exact setRow_heap _ H R2.toArray _ 30 _ (setRow_heap W1 H ROW _ 30 _ hH1)
  ·simp [hl3, hRs]
  ·rw [show R3.toArray.toList = R3 by simp, show (n + 1) * 3 = i * 3 + 3 + (n - i) * 3 by omega, ht3, hRt, lcs_put]
 have hgrow : ∀ (W : World), W.os = w.os → W.tape = w.tape → W.output = w.output → W.heap = ((W1.setRow H R2.toArray).setRow H R3.toArray).heap → w.grownBy W (some g) := fun W e1 e2 e3 hW => by
  refine ⟨e1, e2, e3, ?_, fun k hk _ => ?_⟩
  ·rw [hW, hW1]
   simp
  ·rw [hW]
   exact ((setRow_other _ H k R3.toArray (by omega)).trans (setRow_other W1 H k R2.toArray (by omega))).trans (hO1 k hk)
 clear hxl hsrc htk hcz hg hvs hRt hRs hl2 hl3 ht3 hR2 hR3 hROW hH1 hO1 hG hv hi0 hz0 hsz0 hby0 hszI hbg hcm hgw hg1 hH hGm
 have hw1 : IntKind.i64.wrap ((n : Int) + 1) = (n : Int) + 1 := by rw [IntKind.wrap_i64]; omega
 have hw2 : IntKind.i64.wrap ((n : Int) + 1 - (i : Int)) = (n : Int) + 1 - (i : Int) := by rw [IntKind.wrap_i64]; omega
 have hw3 : IntKind.i64.wrap ((i : Int) + 1) = (i : Int) + 1 := by rw [IntKind.wrap_i64]; omega
 have hz2 : ¬ ((i : Int) = (n : Int)) := by omega
 have hz3 : (c : Int) < (n : Int) + 1 := by omega
 have mixed : Try.prog.follows Departure.mixedOrders = true := by kernel_rfl
 subst hW1
 go_enter Try.func30, Try.ntmps30
 go_wp2_with (first
  | (at_builtin; refine Lib.wpList_append_run _ rfl _ _ _ _ rfl _ _ rfl rfl _ _ (hrz _) ?_)
  | ((with_reducible refine gate_builtin (b := .copy) (xs := #[.tmp 43, .tmp 44]) rfl ?_); refine wpList_copy_runI _ rfl (.tmp 43) (.tmp 44) 26 26 rfl _ _ rfl rfl (hcpA _ (by exact rfl) _ _) ?_)
  | ((with_reducible refine gate_builtin (b := .copy) (xs := #[.tmp 50, .tmp 53]) rfl ?_); refine wpList_copy_runI _ rfl (.tmp 50) (.tmp 53) 26 26 rfl _ _ rfl rfl (hcpB _ (by exact rfl) _ _ _) ?_))
 go_region_law_o (refine step_copy_runI rfl _ _ 26 26 rfl (.slice (some ⟨H, (i + 1) * 3, none⟩) (n + 1 - (i + 1)) (G - (i + 1))) (.slice (some ⟨g, i * 3, none⟩) (n - i) (c - i)) (by simp [Act.eval, Act.put]) (by simp [Act.eval, Act.put]) (hcpB _ (by exact rfl) 3 (G - (i + 1)) (c - i)) ?_)
 go_wp2
 go_ret
 exact ⟨_, rfl, hown _ rfl, hgrow _ rfl rfl rfl rfl⟩
theorem cut_up {P : Program} (t e : TypeId) (kh : IntKind) {i : TypeInfo} (ht : P.underlying t = some (.slice e)) (hi : P.info? e = some i) (A : Option Addr) (n c : Nat) (j : Int) (h0 : 0 ≤ j) (hm : j ≤ c) :
  ∀ W : World, (Instr.slice t (.slice A n c) none (some (.int kh j)) none).run P W = .ok (.slice A j.toNat c) W := by
 intro W
 have hel : P.elem t = e := by simp [Program.elem, ht]
 have hu : P.underlying t = some (.slice (P.elem t)) := by rw [hel]; exact ht
 have ha : (A.map fun x => x.add 0) = A := by cases A <;> simp [Addr.add]
 rw [run_slice_h W t A n c hu kh j h0 hm, hel]
 simp [sizeOf, typeInfo, hi, sliced, Result.andThen, ha]
set_option maxHeartbeats 8000000 in
set_option maxRecDepth 100000 in
/-- ahead of an element, room: in place -/
theorem insertLot.shift (g n c : Nat) (vv : Value) (xs : List (S30)) (x : S30) (i base : Nat) (w : World) (hn : xs.length = n) (ho : w.ownsRow base 30 3 (.slice (some ⟨g, 0, none⟩) n c) n (lcs xs)) (hi : i < n) (hroom : n + 1 ≤ c) (hlen : n + 1 < 5864062014805) (hv : w.ownsRow base 30 3 vv 1 (lc x)) (hne : vv.ownBlock ≠ some g) :
  Calls Try.prog 30 #[.slice (some ⟨g, 0, none⟩) n c, .int .i64 (i : Nat), vv] w fun e w' => ∃ v', e = .returned v' ∧ w'.ownsRow base 30 3 v' (n + 1) (lcs (xs.take i ++ x :: xs.drop i)) ∧ w.grownBy w' (some g) := by
 have hu30 := Try.underlying30
 have hu26 := Try.underlying26
 have ru26 := run_underlying (P := Try.prog) Try.underlying26
 obtain ⟨i0, hi0, hz0, hsz0, hby0⟩ := info_parts info30
 obtain ⟨hxl, hor⟩ := ho
 rcases hor with ⟨hv0, _⟩ | ⟨g', c', cur, hv0, hbg, hg, hnc, hcm, hcz, htk⟩
 ·cases hv0
 injection hv0 with ha _ hc'
 injection ha with ha
 injection ha with hgg _ _
 subst hgg hc'
 have hsrc := row_src ⟨hxl, .inr ⟨g, c, cur, rfl, hbg, hg, hnc, hcm, hcz, htk⟩⟩
 have hgw : g < w.heap.size := blk_lt hg
 obtain ⟨g1, c1, cur1, rfl, hvs, hg1⟩ : ∃ g1 c1 cur1, vv = .slice (some ⟨g1, 0, none⟩) 1 c1 ∧ (∀ j u, (lc x)[j]? = some u → w.cell? ⟨g1, j, none⟩ = some u) ∧ w.heap[g1]? = some (.cells cur1 30 (0, 0)) := by
  rcases hv.2 with ⟨_, h⟩ | ⟨g1, c1, cur1, rfl, _, h, _⟩
  ·cases h
  ·exact ⟨g1, c1, cur1, rfl, row_src hv, h⟩
 have hne1 : g1 ≠ g := fun e => hne (by rw [e]; rfl)
 have hcutA : ∀ W : World, (Instr.slice 26 (.slice (some ⟨g, 0, none⟩) n c) (some (.int .i64 (i : Int))) none none).run Try.prog W = .ok (.slice (some ⟨g, i * 3, none⟩) (n - i) (c - i)) W := fun W => by
  have := cut_from (P := Try.prog) 26 30 .i64 Try.underlying26 hi0 3 hsz0 (some ⟨g, 0, none⟩) n c (i : Int) (by omega) (by omega) W
  rw [Int.toNat_natCast, if_neg (by omega), Option.map_some, add_plain] at this
  exact this
 have hcutB : ∀ W : World, (Instr.slice 26 (.slice (some ⟨g, 0, none⟩) n c) none (some (.int .i64 ((n : Int) + 1))) none).run Try.prog W = .ok (.slice (some ⟨g, 0, none⟩) (n + 1) c) W := fun W => by
  have := cut_up (P := Try.prog) 26 30 .i64 Try.underlying26 hi0 (some ⟨g, 0, none⟩) n c ((n : Int) + 1) (by omega) (by omega) W
  rwa [show ((n : Int) + 1).toNat = n + 1 by omega] at this
 have hcutC : ∀ W : World, (Instr.slice 26 (.slice (some ⟨g, 0, none⟩) (n + 1) c) (some (.int .i64 (i : Int))) none none).run Try.prog W = .ok (.slice (some ⟨g, i * 3, none⟩) (n + 1 - i) (c - i)) W := fun W => by
  have := cut_from (P := Try.prog) 26 30 .i64 Try.underlying26 hi0 3 hsz0 (some ⟨g, 0, none⟩) (n + 1) c (i : Int) (by omega) (by omega) W
  rw [Int.toNat_natCast, if_neg (by omega), Option.map_some, add_plain] at this
  exact this
 have hcutD : ∀ W : World, (Instr.slice 26 (.slice (some ⟨g, 0, none⟩) (n + 1) c) (some (.int .i64 ((i : Int) + 1))) none none).run Try.prog W = .ok (.slice (some ⟨g, (i + 1) * 3, none⟩) (n + 1 - (i + 1)) (c - (i + 1))) W := fun W => by
  have := cut_from (P := Try.prog) 26 30 .i64 Try.underlying26 hi0 3 hsz0 (some ⟨g, 0, none⟩) (n + 1) c ((i : Int) + 1) (by omega) (by omega) W
  rw [show ((i : Int) + 1).toNat = i + 1 by omega, if_neg (by omega), Option.map_some, add_plain] at this
  exact this
 have hov : ∀ lb cb, (callFunc 43 #[.slice (some ⟨g1, 0, none⟩) 1 c1, .slice (some ⟨g, (i + 1) * 3, none⟩) lb cb]).run Try.prog w = .ok (.value (.bool false)) w := fun lb cb => by
  rw [run_callFunc_extern Try.func43 (by kernel_rfl) (by kernel_rfl) (by kernel_rfl) (e := Extern.SlicesOverlaps.overlaps #[26, 26] #[4]) (by kernel_rfl),
   Lib.run_overlaps_apart w 26 4 30 Try.underlying26 3 (fun w => by simp [sizeOf, typeInfo, hi0, hsz0]) ⟨g1, 0, none⟩ ⟨g, (i + 1) * 3, none⟩ 1 c1 lb cb hne1 30 30 cur1.size cur.size (by simp [World.shape?, hg1]) (by simp [World.shape?, hg]) (by omega) (blk_frozen hg1 0) (blk_frozen hg1 cur1.size)]
  rfl
 have hS := splice_ahead cur.toList (lc x) (lcs (xs.drop i)) (i * 3) ((n - i) * 3) (by rw [Array.length_toList, hcz]; omega) rfl (by rw [lcs_len, List.length_drop, hn])
 obtain ⟨R2, hR2⟩ : ∃ R2, R2 = cur.toList.take (i * 3 + 3) ++ lcs (xs.drop i) ++ cur.toList.drop (i * 3 + 3 + (n - i) * 3) := ⟨_, rfl⟩
 obtain ⟨R3, hR3⟩ : ∃ R3, R3 = R2.take (i * 3) ++ lc x ++ R2.drop (i * 3 + 3) := ⟨_, rfl⟩
 simp only [← hR2, ← hR3] at hS
 obtain ⟨hl2, hl3, ht3⟩ := hS
 have hszI : (Try.prog.info? 30).map (·.size) = some 3 := by rw [hi0]; simp [hsz0]
 have hcp1 : ∀ (W : World), W.heap = w.heap → ∀ ty dc sc, (Builtin.copy_ #[26, 26] ty #[.slice (some ⟨g, (i + 1) * 3, none⟩) (n + 1 - (i + 1)) dc, .slice (some ⟨g, i * 3, none⟩) (n + 1 - i) sc]).run Try.prog W = .ok (goInt ((n - i : Nat) : Int)) (W.setRow g R2.toArray) := fun W hW ty dc sc => by
  have e1 : (lcs (xs.drop i)).length = (n - i) * 3 := by rw [lcs_len, List.length_drop, hn]
  have := run_copy_rows (P := Try.prog) W 26 26 ty 30 3 g ((i + 1) * 3) (n + 1 - (i + 1)) dc ⟨g, i * 3, none⟩ (n + 1 - i) sc cur 30 (lcs (xs.drop i)) (n - i) Try.underlying26 hszI (by rw [hW]; exact hg) (by simp only [Nat.min_def]; split <;> omega) e1
   (fun j u hj => by
    rw [add_at]
    have e : W.cell? ⟨g, i * 3 + j, none⟩ = w.cell? ⟨g, i * 3 + j, none⟩ := World.cell?_of_block (by rw [hW])
    rw [e]
    exact hsrc _ u (by rwa [← lcs_drop, List.getElem?_drop] at hj))
   (by rw [e1, hcz]; omega) (fun u hu => lcs_one _ u hu)
  rw [e1, show (i + 1) * 3 = i * 3 + 3 by omega] at this
  rw [hR2, show (i + 1) * 3 = i * 3 + 3 by omega]
  exact this
 have hcp2 : ∀ (W : World), W.heap = (w.setRow g R2.toArray).heap → ∀ ty dc, (Builtin.copy_ #[26, 26] ty #[.slice (some ⟨g, i * 3, none⟩) (n + 1 - i) dc, .slice (some ⟨g1, 0, none⟩) 1 c1]).run Try.prog W = .ok (goInt 1) (W.setRow g R3.toArray) := fun W hW ty dc => by
  have h2 : W.heap[g]? = some (.cells R2.toArray 30 (0, 0)) := by rw [hW]; exact setRow_heap w g cur _ 30 _ hg
  have e2 : R2.toArray.size = c * 3 := by simp [hl2, hcz]
  have := run_copy_rows (P := Try.prog) W 26 26 ty 30 3 g (i * 3) (n + 1 - i) dc ⟨g1, 0, none⟩ 1 c1 R2.toArray 30 (lc x) 1 Try.underlying26 hszI h2 (by simp only [Nat.min_def]; split <;> omega) rfl
   (fun j u hj => by
    rw [add_plain]
    have e : W.cell? ⟨g1, j, none⟩ = w.cell? ⟨g1, j, none⟩ := World.cell?_of_block (by rw [hW]; exact setRow_other w g g1 R2.toArray hne1)
    rw [e]
    exact hvs j u hj)
   (by rw [show (lc x).length = 3 from rfl, e2]; omega) (fun u hu => lcs_one [x] u (by rw [lcs, lcs, List.append_nil]; exact hu))
  have e0 : R2.toArray.toList = R2 := by simp
  rw [e0] at this
  rw [hR3]
  exact this
 have hown : ∀ (W : World), W.heap = ((w.setRow g R2.toArray).setRow g R3.toArray).heap → W.ownsRow base 30 3 (.slice (some ⟨g, 0, none⟩) (n + 1) c) (n + 1) (lcs (xs.take i ++ x :: xs.drop i)) := fun W hW => by
  refine ⟨by rw [lcs_len, List.length_append, List.length_cons, List.length_take, List.length_drop]; omega, .inr ⟨g, c, R3.toArray, rfl, hbg, ?_, hroom, hcm, ?_, ?_⟩⟩
  ·rw [hW]
   exact setRow_heap _ g R2.toArray _ 30 _ (setRow_heap w g cur _ 30 _ hg)
  ·simp [hl3, hcz]
  ·rw [show R3.toArray.toList = R3 by simp, show (n + 1) * 3 = i * 3 + 3 + (n - i) * 3 by omega, ht3, lcs_put, ← htk, List.take_take, Nat.min_eq_left (by omega)]
 have hgrow : ∀ (W : World), W.os = w.os → W.tape = w.tape → W.output = w.output → W.heap = ((w.setRow g R2.toArray).setRow g R3.toArray).heap → w.grownBy W (some g) := fun W e1 e2 e3 hW => by
  refine ⟨e1, e2, e3, ?_, fun k hk hkg => ?_⟩
  ·rw [hW]
   simp
  ·have hk2 : k ≠ g := fun e => hkg (by rw [e])
   rw [hW]
   exact (setRow_other _ g k R3.toArray hk2).trans (setRow_other w g k R2.toArray hk2)
 clear hxl hsrc htk hcz hg hvs hl2 hl3 ht3 hR2 hR3 hv hi0 hz0 hsz0 hby0 hszI hbg hcm hgw hg1 hne hne1
 have hw1 : IntKind.i64.wrap ((n : Int) + 1) = (n : Int) + 1 := by rw [IntKind.wrap_i64]; omega
 have hw3 : IntKind.i64.wrap ((i : Int) + 1) = (i : Int) + 1 := by rw [IntKind.wrap_i64]; omega
 have hz2 : ¬ ((i : Int) = (n : Int)) := by omega
 have hz3 : ¬ ((c : Int) < (n : Int) + 1) := by omega
 have mixed : Try.prog.follows Departure.mixedOrders = true := by kernel_rfl
 go_enter Try.func30, Try.ntmps30
 go_wp2_with (simp only [hov])
 go_region_law_o (refine step_copy_runI rfl _ _ 26 26 rfl (.slice (some ⟨g, (i + 1) * 3, none⟩) (n + 1 - (i + 1)) (c - (i + 1))) (.slice (some ⟨g, i * 3, none⟩) (n + 1 - i) (c - i)) (by simp [Act.eval, Act.put]) (by simp [Act.eval, Act.put]) (hcp1 _ (by exact rfl) 3 (c - (i + 1)) (c - i)) ?_)
 go_wp2_with ((with_reducible refine gate_builtin (b := .copy) (xs := #[.tmp 80, .tmp 81]) rfl ?_); refine wpList_copy_runI _ rfl (.tmp 80) (.tmp 81) 26 26 rfl _ _ rfl rfl (hcp2 _ (by exact rfl) _ _) ?_)
 go_ret
 exact ⟨_, rfl, hown _ rfl, hgrow _ rfl rfl rfl rfl⟩
/-- slices.Insert of one lot -/
theorem insertLot.calls (v vv : Value) (xs : List (S30)) (x : S30) (i base : Nat) (w : World) (ho : w.ownsRow base 30 3 v xs.length (lcs xs)) (hi : i ≤ xs.length) (hb : base ≤ w.heap.size) (hlen : xs.length + 1 < 5864062014805) (hv : w.ownsRow base 30 3 vv 1 (lc x)) (hne : ∀ g, v.ownBlock = some g → vv.ownBlock ≠ some g) :
  Calls Try.prog 30 #[v, .int .i64 (i : Nat), vv] w fun e w' => ∃ v', e = .returned v' ∧ w'.ownsRow base 30 3 v' (xs.length + 1) (lcs (xs.take i ++ x :: xs.drop i)) ∧ w.grownBy w' v.ownBlock := by
 by_cases h : i = xs.length
 ·subst h
  rw [List.take_length, List.drop_length]
  exact insertLot.end_ v vv xs x base w ho hb hlen hv
 ·have hl := ho
  rcases hl.2 with ⟨_, h0⟩ | ⟨g, c, cur, rfl, _⟩
  ·omega
  ·by_cases hr : xs.length + 1 ≤ c
   ·exact insertLot.shift g xs.length c vv xs x i base w rfl ho (by omega) hr hlen hv (hne g rfl)
   ·exact insertLot.grow g xs.length c vv xs x i base w rfl ho (by omega) (by omega) hb hlen hv
/-! ### slices.BinarySearchFunc at lots, with compareLots: by hand -/
theorem callFunc_plain {P : Program} {f : FuncId} {fn : Func} {c : Code} (hf : P.funcs[f]? = some fn) (hname : (fn.name == "runtime.NumGoroutine") = false) (hb : fn.body = some c) (args : Array Value) (w : World) :
  (callFunc f args).run P w = .ok (.enter f args) w := by
 have h1 : fn.name ≠ "runtime.NumGoroutine" := by simpa using hname
 simp [callFunc, hf, h1, hb]
def searchLots.l0 : Nat → List (S30) → Int → Int → Int → Nat → Nat → Option Nat
 | 0, _, _, _, _, _, _ => none
 | k + 1, l, a, b, c, i, j => if i < j then ((impl_compareLots.f k (rd_T30 l (((i + j) / 2 : Nat) : Int)).f0 (rd_T30 l (((i + j) / 2 : Nat) : Int)).f1 (rd_T30 l (((i + j) / 2 : Nat) : Int)).f2 a b c).bind fun t => if t < 0 then searchLots.l0 k l a b c ((i + j) / 2 + 1) j else searchLots.l0 k l a b c i ((i + j) / 2)) else some i
def searchLots.f (k : Nat) (l : List (S30)) (a b c : Int) : Option (Nat × Bool) :=
 (searchLots.l0 k l a b c 0 l.length).bind fun i => if i < l.length then ((impl_compareLots.f k (rd_T30 l ((i : Nat) : Int)).f0 (rd_T30 l ((i : Nat) : Int)).f1 (rd_T30 l ((i : Nat) : Int)).f2 a b c).bind fun t => some (i, t == 0)) else some (i, false)
set_option maxHeartbeats 8000000 in
set_option maxRecDepth 100000 in
theorem searchLots.calls (k : Nat) (A0 : Option Addr) (c0 : Nat) (l0 : List (S30)) (a b c : Int) (i : Nat) (q : Bool) (w : World) (hr0 : Kd.C k30 w A0 l0.length l0) (hc0 : l0.length ≤ c0) (hlen : l0.length < 5864062014805) (h : searchLots.f k l0 a b c = some (i, q)) :
  Calls Try.prog 28 #[.slice A0 l0.length c0, .agg #[.int .i64 a, .int .i64 b, .int .i64 c], .func (.func 29) #[] #[]] w fun e w' => e = .returned (.tuple #[.int .i64 (i : Nat), .bool q]) ∧ i ≤ l0.length ∧ Below w.heap.size w w' := by
 have hu30 := Try.underlying30
 have hu26 := Try.underlying26
 have hu62 := Try.underlying62
 have hu3 := Try.underlying3
 have mixed : Try.prog.follows Departure.mixedOrders = true := by kernel_rfl
 have eg : ∀ args w, (callFunc 29 args).run Try.prog w = .ok (.enter 29 args) w := callFunc_plain Try.func29 (by kernel_rfl) rfl
 have HR0 := Aside0.mk hr0
 have HC0 := Aside0.mk hc0
 have HLN := Aside0.mk hlen
 clear hr0 hc0
 obtain ⟨i1, H1, H⟩ := Option.bind_eq_some_iff.mp h
 clear h
 have HA1 := Aside0.mk H1
 have HA := Aside0.mk H
 clear H1 H
 have HB := Aside0.mk (Below.refl w.heap.size w)
 go_enter Try.func28, Try.ntmps28
 go_wp2_with (first | ((with_reducible refine gate_dst (N := 4) rfl ?_); refine box_event ?hg (N := 4) ?hd (cs := #[.int .i64 a, .int .i64 b, .int .i64 c]) (t := 30) ?hr ?_; (case hd => rfl); (case hg => rfl); (case hr => first | (go_simp; done) | (go_simp; rfl)); intro gb hg w4 hbox hb; have n0_ := Aside0.mk (below_step HB.out hb); have BK := Aside0.mk (hbox); have GE := Aside0.mk (show w.heap.size ≤ gb by rw [hg]; exact HB.out.size); clear HB; have HB := n0_; clear n0_ hb hbox hg))
 go_loopg [9, 10] k (fun kq v9 v10 wr => ∃ lo hi : Nat, v9 = .int .i64 (lo : Nat) ∧ v10 = .int .i64 (hi : Nat) ∧ lo ≤ hi ∧ hi ≤ l0.length ∧ Aside0 (searchLots.l0 kq l0 a b c lo hi = some i1) ∧ Aside0 (kq ≤ k) ∧ Aside0 (wr.heap[gb]? = some (.cells #[.int .i64 a, .int .i64 b, .int .i64 c] 30 (0, 0))) ∧ Aside0 (Below w.heap.size w wr))
 case atStart => exact ⟨0, l0.length, rfl, rfl, Nat.zero_le _, Nat.le_refl _, HA1, ⟨Nat.le_refl _⟩, BK, HB⟩
 case round =>
  clear HA1 BK HB
  obtain ⟨lo, hi, rfl, rfl, hlh, hin, HA1, HK1, BK, HB⟩ := hrel
  cases gk with
  | zero => exact absurd HA1.out (by simp [searchLots.l0])
  | succ k1 =>
   have H := HA1.out
   clear HA1
   simp only [searchLots.l0] at H
   have hL := HLN.out
   have hcz0 : wr.cell? ⟨gb, 0, none⟩ = some (.int .i64 a) := (blk_cell BK.out 0).trans rfl
   have hcz1 : wr.cell? ⟨gb, 1, none⟩ = some (.int .i64 b) := (blk_cell BK.out 1).trans rfl
   have hcz2 : wr.cell? ⟨gb, 2, none⟩ = some (.int .i64 c) := (blk_cell BK.out 2).trans rfl
   by_cases hlt : lo < hi
   ·rw [if_pos hlt] at H
    obtain ⟨t, A2, H⟩ := Option.bind_eq_some_iff.mp H
    obtain ⟨h, hh⟩ : ∃ h : Nat, (lo + hi) / 2 = h := ⟨_, rfl⟩
    rw [hh] at A2 H
    have A2' := Aside0.mk A2
    clear A2
    have hhl : lo ≤ h ∧ h < hi := by omega
    have hq : ((lo : Int) + (hi : Int)) / 2 = (h : Int) := by omega
    have hq0 : (0 : Int) ≤ (h : Int) := by omega
    have hq1 : (h : Int) < (l0.length : Int) := by omega
    obtain ⟨ad, e, hx0, hx1, hx2⟩ := at_T30 HR0.out (h : Int) hq0 hq1
    cases e
    replace hx0 := (HB.out.cell (World.block_lt_of_cell? w _ hx0)).trans hx0
    replace hx1 := (HB.out.cell (World.block_lt_of_cell? w _ hx1)).trans hx1
    replace hx2 := (HB.out.cell (World.block_lt_of_cell? w _ hx2)).trans hx2
    rw [Int.toNat_natCast] at hx0 hx1 hx2
    have hlt' : (lo : Int) < (hi : Int) := by omega
    have HHL := Aside0.mk hhl
    clear hh hhl hlt
    by_cases c2 : t < 0
    ·rw [if_pos c2] at H
     have H' := Aside0.mk H
     clear H
     go_wp2
     go_region_with (go_at_fn 29; (with_reducible refine (impl_compareLots.calls k1 _ _ _ a b c t _ A2'.out).mono ?_); rintro e w' ⟨rfl, hb⟩)
     all_goals
      have BK' := Aside0.mk (blk_below (g := gb) (blk_drew BK.out) hb)
      have HB' := Aside0.mk (below_step (below_drew1 HB.out) hb)
      clear hb
      go_wp2
      go_roundg k1
      case measure => have := HK1.out; omega
      case rel => exact ⟨h + 1, hi, by first | rfl | (rw [Int.natCast_succ]) | (simp; done), rfl, by have := HHL.out; omega, hin, H', ⟨by have := HK1.out; omega⟩, BK', HB'⟩
    ·rw [if_neg c2] at H
     have H' := Aside0.mk H
     clear H
     go_wp2
     go_region_with (go_at_fn 29; (with_reducible refine (impl_compareLots.calls k1 _ _ _ a b c t _ A2'.out).mono ?_); rintro e w' ⟨rfl, hb⟩)
     all_goals
      have BK' := Aside0.mk (blk_below (g := gb) (blk_drew BK.out) hb)
      have HB' := Aside0.mk (below_step (below_drew1 HB.out) hb)
      clear hb
      go_wp2
      go_roundg k1
      case measure => have := HK1.out; omega
      case rel => exact ⟨lo, h, rfl, rfl, by have := HHL.out; omega, by have := HHL.out; omega, H', ⟨by have := HK1.out; omega⟩, BK', HB'⟩
   ·rw [if_neg hlt] at H
    obtain rfl := Option.some.inj H
    obtain rfl : hi = lo := by omega
    clear H hlt hlh
    have H := HA.out
    clear HA
    by_cases hn : hi < l0.length
    ·rw [if_pos hn] at H
     obtain ⟨t, A2, H⟩ := Option.bind_eq_some_iff.mp H
     have A2' := Aside0.mk A2
     clear A2
     simp only [Option.some.injEq, Prod.mk.injEq] at H
     obtain ⟨rfl, rfl⟩ := H
     have hq0 : (0 : Int) ≤ (hi : Int) := by omega
     have hq1 : (hi : Int) < (l0.length : Int) := by omega
     obtain ⟨ad, e, hx0, hx1, hx2⟩ := at_T30 HR0.out (hi : Int) hq0 hq1
     cases e
     replace hx0 := (HB.out.cell (World.block_lt_of_cell? w _ hx0)).trans hx0
     replace hx1 := (HB.out.cell (World.block_lt_of_cell? w _ hx1)).trans hx1
     replace hx2 := (HB.out.cell (World.block_lt_of_cell? w _ hx2)).trans hx2
     rw [Int.toNat_natCast] at hx0 hx1 hx2
     go_wp2
     refine start_ (n := 16) (S := fun w' => (w'.cell? (ad.add (hi * 3)) = some (.int .i64 (rd_T30 l0 (hi : Nat)).f0) ∧ w'.cell? ⟨(ad.add (hi * 3)).block, (ad.add (hi * 3)).off + 1, none⟩ = some (.int .i64 (rd_T30 l0 (hi : Nat)).f1) ∧ w'.cell? ⟨(ad.add (hi * 3)).block, (ad.add (hi * 3)).off + 2, none⟩ = some (.int .i64 (rd_T30 l0 (hi : Nat)).f2)) ∧ w'.cell? ⟨gb, 0, none⟩ = some (.int .i64 a) ∧ w'.cell? ⟨gb, 1, none⟩ = some (.int .i64 b) ∧ w'.cell? ⟨gb, 2, none⟩ = some (.int .i64 c)) (ds := []) #[false, false, false, false, false, false, false, false, false, false, false, false, false, false, false, false] (by kernel_rfl) rfl rfl ⟨⟨hx0, hx1, hx2⟩, hcz0, hcz1, hcz2⟩ (fun hHeld => ?_)
     have HB' := Aside0.mk (below_drew1 HB.out)
     clear hx0 hx1 hx2 hcz0 hcz1 hcz2 BK HB
     generalize wr.drew = w8 at HB' hHeld ⊢
     refine pure_ (i := 0) (N := some 35) (v := ?_) (a' := ?_) #[true, false, false, false, false, false, false, false, false, false, false, false, false, false, false, false] rfl rfl (by kernel_rfl) (fun _ _ _ h => h) (Or.inl ⟨by rfl, ?_⟩) ?_ ?_
     rotate_left
     ·intro w'
      go_simp
      with_reducible rfl
     rotate_left
     ·simp only [Act.put, List.setIfInBounds_toArray, List.set_cons_zero, List.set_cons_succ, i64_w, i32_w]
      rfl
     refine pure_ (i := 1) (N := some 36) (v := ?_) (a' := ?_) #[true, true, false, false, false, false, false, false, false, false, false, false, false, false, false, false] rfl rfl (by kernel_rfl) (fun _ _ _ h => h) (Or.inl ⟨by rfl, ?_⟩) ?_ ?_
     rotate_left
     ·intro w'
      go_simp
      with_reducible rfl
     rotate_left
     ·simp only [Act.put, List.setIfInBounds_toArray, List.set_cons_zero, List.set_cons_succ, i64_w, i32_w]
      rfl
     refine pure_ (i := 2) (N := some 37) (v := ?_) (a' := ?_) #[true, true, true, false, false, false, false, false, false, false, false, false, false, false, false, false] rfl rfl (by kernel_rfl) (fun _ _ _ h => h) (Or.inl ⟨by rfl, ?_⟩) ?_ ?_
     rotate_left
     ·intro w'
      go_simp
      with_reducible rfl
     rotate_left
     ·simp only [Act.put, List.setIfInBounds_toArray, List.set_cons_zero, List.set_cons_succ, i64_w, i32_w]
      rfl
     refine pure_ (i := 3) (N := some 38) (v := ?_) (a' := ?_) #[true, true, true, true, false, false, false, false, false, false, false, false, false, false, false, false] rfl rfl (by kernel_rfl) (fun _ _ _ h => h) (Or.inl ⟨by rfl, ?_⟩) ?_ ?_
     rotate_left
     ·intro w'
      go_simp
      with_reducible rfl
     rotate_left
     ·simp only [Act.put, List.setIfInBounds_toArray, List.set_cons_zero, List.set_cons_succ, i64_w, i32_w]
      rfl
     refine pure_ (i := 4) (N := some 39) (v := ?_) (a' := ?_) #[true, true, true, true, true, false, false, false, false, false, false, false, false, false, false, false] rfl rfl (by kernel_rfl) (fun _ _ _ h => h) (Or.inl ⟨by rfl, ?_⟩) ?_ ?_
     rotate_left
     ·intro w'
      go_simp
      with_reducible rfl
     rotate_left
     ·simp only [Act.put, List.setIfInBounds_toArray, List.set_cons_zero, List.set_cons_succ, i64_w, i32_w]
      rfl
     refine pure_ (i := 5) (N := some 40) (v := ?_) (a' := ?_) #[true, true, true, true, true, true, false, false, false, false, false, false, false, false, false, false] rfl rfl (by kernel_rfl) (fun _ _ _ h => h) (Or.inl ⟨by rfl, ?_⟩) ?_ ?_
     rotate_left
     ·intro w'
      go_simp
      with_reducible rfl
     rotate_left
     ·simp only [Act.put, List.setIfInBounds_toArray, List.set_cons_zero, List.set_cons_succ, i64_w, i32_w]
      rfl
     refine pure_ (i := 6) (N := some 41) (v := ?_) (a' := ?_) #[true, true, true, true, true, true, true, false, false, false, false, false, false, false, false, false] rfl rfl (by kernel_rfl) (fun _ _ _ h => h) (Or.inl ⟨by rfl, ?_⟩) ?_ ?_
     rotate_left
     ·intro w'
      go_simp
      with_reducible rfl
     rotate_left
     ·simp only [Act.put, List.setIfInBounds_toArray, List.set_cons_zero, List.set_cons_succ, i64_w, i32_w]
      rfl
     refine pure_ (i := 7) (N := some 42) (v := ?_) (a' := ?_) #[true, true, true, true, true, true, true, true, false, false, false, false, false, false, false, false] rfl rfl (by kernel_rfl) (fun _ _ _ h => h) (Or.inl ⟨by rfl, ?_⟩) ?_ ?_
     rotate_left
     ·intro w'
      go_simp
      with_reducible rfl
     rotate_left
     ·simp only [Act.put, List.setIfInBounds_toArray, List.set_cons_zero, List.set_cons_succ, i64_w, i32_w]
      rfl
     refine pure_ (i := 8) (N := some 43) (v := ?_) (a' := ?_) #[true, true, true, true, true, true, true, true, true, false, false, false, false, false, false, false] rfl rfl (by kernel_rfl) (fun _ _ _ h => h) (Or.inl ⟨by rfl, ?_⟩) ?_ ?_
     rotate_left
     ·intro w'
      go_simp
      with_reducible rfl
     rotate_left
     ·simp only [Act.put, List.setIfInBounds_toArray, List.set_cons_zero, List.set_cons_succ, i64_w, i32_w]
      rfl
     refine take_ (i := 9) (N := some 44) (v := ?_) (a' := ?_) #[true, true, true, true, true, true, true, true, true, true, false, false, false, false, false, false] rfl rfl (by kernel_rfl) (fun _ _ _ h => h) (Or.inl ⟨by rfl, ?_⟩) hHeld ?_ ?_
     rotate_left
     ·rintro w' ⟨⟨s0, s1, s2⟩, s3, s4, s5⟩
      go_simp
      with_reducible rfl
     rotate_left
     ·simp only [Act.put, List.setIfInBounds_toArray, List.set_cons_zero, List.set_cons_succ, i64_w, i32_w]
      rfl
     refine take_ (i := 10) (N := some 45) (v := ?_) (a' := ?_) #[true, true, true, true, true, true, true, true, true, true, true, false, false, false, false, false] rfl rfl (by kernel_rfl) (fun _ _ _ h => h) (Or.inl ⟨by rfl, ?_⟩) hHeld ?_ ?_
     rotate_left
     ·rintro w' ⟨⟨s0, s1, s2⟩, s3, s4, s5⟩
      go_simp
      with_reducible rfl
     rotate_left
     ·simp only [Act.put, List.setIfInBounds_toArray, List.set_cons_zero, List.set_cons_succ, i64_w, i32_w]
      rfl
     refine one_ (i := 11) (N := some 46) #[true, true, true, true, true, true, true, true, true, true, true, true, false, false, false, false] rfl rfl (by kernel_rfl) (by decide) (fun K hK => ?_)
     refine call_ 29 #[.agg #[.int .i64 (rd_T30 l0 (hi : Nat)).f0, .int .i64 (rd_T30 l0 (hi : Nat)).f1, .int .i64 (rd_T30 l0 (hi : Nat)).f2], .agg #[.int .i64 a, .int .i64 b, .int .i64 c]] (by rfl) rfl ?_ ?_
     ·go_simp
      try rfl
     refine (impl_compareLots.calls k _ _ _ a b c t _ A2'.out).mono ?_
     rintro e w' ⟨rfl, hb⟩
     have HB9 := Aside0.mk (below_step HB'.out hb)
     refine ⟨_, rfl, hK.out _ _ ⟨⟨pw_cell_below hb hHeld.1.1, pw_cell_below hb hHeld.1.2.1, pw_cell_below hb hHeld.1.2.2⟩, pw_cell_below hb hHeld.2.1, pw_cell_below hb hHeld.2.2.1, pw_cell_below hb hHeld.2.2.2⟩ (fun hHeld => ?_)⟩
     clear hK K hb
     refine norm_ (a' := ?_) ?_ ?_
     rotate_left
     ·simp only [Act.put, List.setIfInBounds_toArray, List.set_cons_zero, List.set_cons_succ, i64_w, i32_w]
      rfl
     refine pure_ (i := 12) (N := some 47) (v := ?_) (a' := ?_) #[true, true, true, true, true, true, true, true, true, true, true, true, true, false, false, false] rfl rfl (by kernel_rfl) (fun _ _ _ h => h) (Or.inl ⟨by rfl, ?_⟩) ?_ ?_
     rotate_left
     ·intro w'
      go_simp
      with_reducible rfl
     rotate_left
     ·simp only [Act.put, List.setIfInBounds_toArray, List.set_cons_zero, List.set_cons_succ, i64_w, i32_w]
      rfl
     refine pure_ (i := 13) (N := some 48) (v := ?_) (a' := ?_) #[true, true, true, true, true, true, true, true, true, true, true, true, true, true, false, false] rfl rfl (by kernel_rfl) (fun _ _ _ h => h) (Or.inl ⟨by rfl, ?_⟩) ?_ ?_
     rotate_left
     ·intro w'
      go_simp
      with_reducible rfl
     rotate_left
     ·simp only [Act.put, List.setIfInBounds_toArray, List.set_cons_zero, List.set_cons_succ, i64_w, i32_w]
      rfl
     refine pure_ (i := 14) (N := some 6) (v := ?_) (a' := ?_) #[true, true, true, true, true, true, true, true, true, true, true, true, true, true, true, false] rfl rfl (by kernel_rfl) (fun _ _ _ h => h) (Or.inl ⟨by rfl, ?_⟩) ?_ ?_
     rotate_left
     ·intro w'
      go_simp
      with_reducible rfl
     rotate_left
     ·simp only [Act.put, List.setIfInBounds_toArray, List.set_cons_zero, List.set_cons_succ, i64_w, i32_w]
      rfl
     refine pure_ (i := 15) (N := some 7) (v := ?_) (a' := ?_) #[true, true, true, true, true, true, true, true, true, true, true, true, true, true, true, true] rfl rfl (by kernel_rfl) (fun _ _ _ h => h) (Or.inl ⟨by rfl, ?_⟩) ?_ ?_
     rotate_left
     ·intro w'
      go_simp
      with_reducible rfl
     rotate_left
     ·simp only [Act.put, List.setIfInBounds_toArray, List.set_cons_zero, List.set_cons_succ, i64_w, i32_w]
      rfl
     refine done_ (by kernel_rfl) ?_
     go_wp2
     go_ret2
     exact ⟨by first | rfl | (simp; done), hin, HB9.out⟩
    ·rw [if_neg hn] at H
     simp only [Option.some.injEq, Prod.mk.injEq] at H
     obtain ⟨rfl, rfl⟩ := H
     have hq2 : ¬ ((hi : Int) < (l0.length : Int)) := by omega
     go_wp2
     refine start_ (n := 16) (S := fun _ => True) (ds := []) #[false, false, false, false, false, false, false, false, false, false, false, false, false, false, false, false] (by kernel_rfl) rfl rfl trivial (fun hHeld => ?_)
     have HB' := Aside0.mk (below_drew1 HB.out)
     generalize wr.drew = w8 at HB' hHeld ⊢
     refine pure_ (i := 0) (N := some 35) (v := ?_) (a' := ?_) #[true, false, false, false, false, false, false, false, false, false, false, false, false, false, false, false] rfl rfl (by kernel_rfl) (fun _ _ _ h => h) (Or.inl ⟨by rfl, ?_⟩) ?_ ?_
     rotate_left
     ·intro w'
      go_simp
      with_reducible rfl
     rotate_left
     ·simp only [Act.put, List.setIfInBounds_toArray, List.set_cons_zero, List.set_cons_succ, i64_w, i32_w]
      rfl
     refine pure_ (i := 1) (N := some 36) (v := ?_) (a' := ?_) #[true, true, false, false, false, false, false, false, false, false, false, false, false, false, false, false] rfl rfl (by kernel_rfl) (fun _ _ _ h => h) (Or.inl ⟨by rfl, ?_⟩) ?_ ?_
     rotate_left
     ·intro w'
      go_simp
      with_reducible rfl
     rotate_left
     ·simp only [Act.put, List.setIfInBounds_toArray, List.set_cons_zero, List.set_cons_succ, i64_w, i32_w]
      rfl
     refine pure_ (i := 2) (N := some 37) (v := ?_) (a' := ?_) #[true, true, true, false, false, false, false, false, false, false, false, false, false, false, false, false] rfl rfl (by kernel_rfl) (fun _ _ _ h => h) (Or.inl ⟨by rfl, ?_⟩) ?_ ?_
     rotate_left
     ·intro w'
      go_simp
      with_reducible rfl
     rotate_left
     ·simp only [Act.put, List.setIfInBounds_toArray, List.set_cons_zero, List.set_cons_succ, i64_w, i32_w]
      rfl
     refine pure_ (i := 3) (N := some 38) (v := ?_) (a' := ?_) #[true, true, true, true, false, false, false, false, false, false, false, false, false, false, false, false] rfl rfl (by kernel_rfl) (fun _ _ _ h => h) (Or.inl ⟨by rfl, ?_⟩) ?_ ?_
     rotate_left
     ·intro w'
      go_simp
      with_reducible rfl
     rotate_left
     ·simp only [Act.put, List.setIfInBounds_toArray, List.set_cons_zero, List.set_cons_succ, i64_w, i32_w]
      rfl
     refine pure_ (i := 4) (N := some 39) (v := ?_) (a' := ?_) #[true, true, true, true, true, false, false, false, false, false, false, false, false, false, false, false] rfl rfl (by kernel_rfl) (fun _ _ _ h => h) (Or.inl ⟨by rfl, ?_⟩) ?_ ?_
     rotate_left
     ·intro w'
      go_simp
      with_reducible rfl
     rotate_left
     ·simp only [Act.put, List.setIfInBounds_toArray, List.set_cons_zero, List.set_cons_succ, i64_w, i32_w]
      rfl
     refine pure_ (i := 5) (N := some 40) (v := undef) (a' := ?_) #[true, true, true, true, true, true, false, false, false, false, false, false, false, false, false, false] rfl rfl (by kernel_rfl) (fun _ _ _ h => h) (Or.inr ⟨by rfl, rfl⟩) ?_ ?_
     rotate_left
     ·simp only [Act.put, List.setIfInBounds_toArray, List.set_cons_zero, List.set_cons_succ, i64_w, i32_w]
      rfl
     refine pure_ (i := 6) (N := some 41) (v := undef) (a' := ?_) #[true, true, true, true, true, true, true, false, false, false, false, false, false, false, false, false] rfl rfl (by kernel_rfl) (fun _ _ _ h => h) (Or.inr ⟨by rfl, rfl⟩) ?_ ?_
     rotate_left
     ·simp only [Act.put, List.setIfInBounds_toArray, List.set_cons_zero, List.set_cons_succ, i64_w, i32_w]
      rfl
     refine pure_ (i := 7) (N := some 42) (v := undef) (a' := ?_) #[true, true, true, true, true, true, true, true, false, false, false, false, false, false, false, false] rfl rfl (by kernel_rfl) (fun _ _ _ h => h) (Or.inr ⟨by rfl, rfl⟩) ?_ ?_
     rotate_left
     ·simp only [Act.put, List.setIfInBounds_toArray, List.set_cons_zero, List.set_cons_succ, i64_w, i32_w]
      rfl
     refine pure_ (i := 8) (N := some 43) (v := undef) (a' := ?_) #[true, true, true, true, true, true, true, true, true, false, false, false, false, false, false, false] rfl rfl (by kernel_rfl) (fun _ _ _ h => h) (Or.inr ⟨by rfl, rfl⟩) ?_ ?_
     rotate_left
     ·simp only [Act.put, List.setIfInBounds_toArray, List.set_cons_zero, List.set_cons_succ, i64_w, i32_w]
      rfl
     refine pure_ (i := 9) (N := some 44) (v := undef) (a' := ?_) #[true, true, true, true, true, true, true, true, true, true, false, false, false, false, false, false] rfl rfl (by kernel_rfl) (fun _ _ _ h => h) (Or.inr ⟨by rfl, rfl⟩) ?_ ?_
     rotate_left
     ·simp only [Act.put, List.setIfInBounds_toArray, List.set_cons_zero, List.set_cons_succ, i64_w, i32_w]
      rfl
     refine pure_ (i := 10) (N := some 45) (v := undef) (a' := ?_) #[true, true, true, true, true, true, true, true, true, true, true, false, false, false, false, false] rfl rfl (by kernel_rfl) (fun _ _ _ h => h) (Or.inr ⟨by rfl, rfl⟩) ?_ ?_
     rotate_left
     ·simp only [Act.put, List.setIfInBounds_toArray, List.set_cons_zero, List.set_cons_succ, i64_w, i32_w]
      rfl
     refine pure_ (i := 11) (N := some 46) (v := undef) (a' := ?_) #[true, true, true, true, true, true, true, true, true, true, true, true, false, false, false, false] rfl rfl (by kernel_rfl) (fun _ _ _ h => h) (Or.inr ⟨by rfl, rfl⟩) ?_ ?_
     rotate_left
     ·simp only [Act.put, List.setIfInBounds_toArray, List.set_cons_zero, List.set_cons_succ, i64_w, i32_w]
      rfl
     refine pure_ (i := 12) (N := some 47) (v := undef) (a' := ?_) #[true, true, true, true, true, true, true, true, true, true, true, true, true, false, false, false] rfl rfl (by kernel_rfl) (fun _ _ _ h => h) (Or.inr ⟨by rfl, rfl⟩) ?_ ?_
     rotate_left
     ·simp only [Act.put, List.setIfInBounds_toArray, List.set_cons_zero, List.set_cons_succ, i64_w, i32_w]
      rfl
     refine pure_ (i := 13) (N := some 48) (v := ?_) (a' := ?_) #[true, true, true, true, true, true, true, true, true, true, true, true, true, true, false, false] rfl rfl (by kernel_rfl) (fun _ _ _ h => h) (Or.inl ⟨by rfl, ?_⟩) ?_ ?_
     rotate_left
     ·intro w'
      go_simp
      with_reducible rfl
     rotate_left
     ·simp only [Act.put, List.setIfInBounds_toArray, List.set_cons_zero, List.set_cons_succ, i64_w, i32_w]
      rfl
     refine pure_ (i := 14) (N := some 6) (v := ?_) (a' := ?_) #[true, true, true, true, true, true, true, true, true, true, true, true, true, true, true, false] rfl rfl (by kernel_rfl) (fun _ _ _ h => h) (Or.inl ⟨by rfl, ?_⟩) ?_ ?_
     rotate_left
     ·intro w'
      go_simp
      with_reducible rfl
     rotate_left
     ·simp only [Act.put, List.setIfInBounds_toArray, List.set_cons_zero, List.set_cons_succ, i64_w, i32_w]
      rfl
     refine pure_ (i := 15) (N := some 7) (v := ?_) (a' := ?_) #[true, true, true, true, true, true, true, true, true, true, true, true, true, true, true, true] rfl rfl (by kernel_rfl) (fun _ _ _ h => h) (Or.inl ⟨by rfl, ?_⟩) ?_ ?_
     rotate_left
     ·intro w'
      go_simp
      with_reducible rfl
     rotate_left
     ·simp only [Act.put, List.setIfInBounds_toArray, List.set_cons_zero, List.set_cons_succ, i64_w, i32_w]
      rfl
     refine done_ (by kernel_rfl) ?_
     go_wp2
     go_ret2
     exact ⟨by first | rfl | (simp; done), hin, HB'.out⟩
theorem searchLots.known {k : Nat} {l : List (S30)} {a b c : Int} {i : Nat} (h : searchLots.f k l a b c = some (i, true)) : i < l.length := by
 obtain ⟨j, _, H⟩ := Option.bind_eq_some_iff.mp h
 by_cases c1 : j < l.length
 ·rw [if_pos c1] at H
  obtain ⟨t, _, H⟩ := Option.bind_eq_some_iff.mp H
  simp only [Option.some.injEq, Prod.mk.injEq] at H
  omega
 ·rw [if_neg c1] at H
  simp at H
theorem lcs_set : ∀ (xs : List (S30)) (i : Nat) (h : i < xs.length) (v : Int), (lcs xs).set (i * 3 + 2) (.int .i64 v) = lcs (xs.set i ⟨(rd_T30 xs (i : Nat)).f0, (rd_T30 xs (i : Nat)).f1, v⟩)
 | x :: r, 0, _, v => rfl
 | x :: r, i + 1, h, v => by
  have e : rd_T30 (x :: r) ((i + 1 : Nat) : Int) = rd_T30 r (i : Nat) := rfl
  rw [List.set_cons_succ, lcs, lcs, e, ← lcs_set r i (by simpa using h) v, List.set_append_right _ _ (by rw [show (lc x).length = 3 from rfl]; omega), show (lc x).length = 3 from rfl, show (i + 1) * 3 + 2 - 3 = i * 3 + 2 by omega]
theorem lots_set {w : World} {base g n c : Nat} {xs : List (S30)} (ho : w.ownsRow base 30 3 (.slice (some ⟨g, 0, none⟩) n c) n (lcs xs)) (hn : xs.length = n) (i : Nat) (hi : i < n) (v : Int) :
  (w.setCell ⟨g, i * 3 + 2, none⟩ (.int .i64 v)).ownsRow base 30 3 (.slice (some ⟨g, 0, none⟩) n c) n (lcs (xs.set i ⟨(rd_T30 xs (i : Nat)).f0, (rd_T30 xs (i : Nat)).f1, v⟩)) := by
 refine ⟨by rw [lcs_len, List.length_set, hn], ?_⟩
 rcases ho.2 with ⟨h, _⟩ | ⟨g', cap, cur, hv, hb, hg, hnc, hm, hz, ht⟩
 ·cases h
 ·injection hv with ha hn' hc
  injection ha with ha
  injection ha with hgg _ _
  subst hgg hc
  refine .inr ⟨g, c, _, rfl, hb, blk_set hg (i * 3 + 2) _, hnc, hm, by rw [Array.size_setIfInBounds]; exact hz, ?_⟩
  rw [Array.toList_setIfInBounds, List.take_set, ht, lcs_set xs i (by omega) v]
theorem lots_cells {w : World} {base g n c : Nat} {xs : List (S30)} (ho : w.ownsRow base 30 3 (.slice (some ⟨g, 0, none⟩) n c) n (lcs xs)) (hn : xs.length = n) (i : Nat) (hi : i < n) :
  w.cell? ⟨g, i * 3 + 2, none⟩ = some (.int .i64 (rd_T30 xs (i : Nat)).f2) ∧ w.frozen? ⟨g, i * 3 + 2, none⟩ = false := by
 constructor
 ·refine row_src ho _ _ ?_
  have hl : i < xs.length := by omega
  have e : (lcs xs)[i * 3 + 2]? = ((lcs xs).drop (i * 3))[2]? := by rw [List.getElem?_drop]
  rw [e, lcs_drop, List.drop_eq_getElem_cons hl, lcs]
  have e2 : rd_T30 xs (i : Nat) = xs[i] := by
   unfold rd_T30
   rw [Int.toNat_natCast, List.getD_eq_getElem?_getD, List.getElem?_eq_getElem hl]
   rfl
  rw [e2]
  rfl
 ·rcases ho.2 with ⟨h, _⟩ | ⟨g', cap, cur, hv, hb, hg, _⟩
  ·cases h
  ·injection hv with ha _ _
   injection ha with ha
   injection ha with hgg _ _
   subst hgg
   exact blk_frozen hg _
theorem below_grown {w w1 w2 : World} {row : Option Nat} (h : Below w.heap.size w w1) (hg : w1.grownBy w2 row) (hr : ∀ k, row = some k → w.heap.size ≤ k) : Below w.heap.size w w2 := pw_below_grown h row h.size hg hr
/-! ### impl_StorePut: function 11: by hand -/
def impl_StorePut.put (l : List (S30)) (s : Nat × Bool) (x : S30) : List (S30) := if s.2 = true then l.set s.1 ⟨(rd_T30 l (s.1 : Nat)).f0, (rd_T30 l (s.1 : Nat)).f1, wrap64 ((rd_T30 l (s.1 : Nat)).f2 + x.f2)⟩ else l.take s.1 ++ x :: l.drop s.1
def impl_StorePut.f (k : Nat) (l0 : List (S30)) (a1_0 : Int) (a1_1 : Int) (a1_2 : Int) : Option ((List (S30)) × Bool) :=
 (impl_StoreValid.f k l0).bind fun t1 => if t1 = true then ((impl_lotValid.f a1_0 a1_1 a1_2).bind fun t2 => if t2 = true then (if l0.length + 1 < 5864062014805 then ((searchLots.f k l0 a1_0 a1_1 a1_2).bind fun s => ((impl_StoreValid.f k (impl_StorePut.put l0 s ⟨a1_0, a1_1, a1_2⟩)).bind fun t3 => if t3 = true then some (impl_StorePut.put l0 s ⟨a1_0, a1_1, a1_2⟩, true) else some ([], false))) else none) else some ([], false)) else some ([], false)
set_option maxHeartbeats 4000000 in
set_option maxRecDepth 100000 in
theorem impl_StorePut.calls (k : Nat) (A0 : Option Addr) (c0 : Nat) (l0 : List (S30)) (a1_0 : Int) (a1_1 : Int) (a1_2 : Int) (r1 : List (S30)) (r2 : Bool) (w : World) (hr0 : Kd.C k30 w A0 l0.length l0) (hc0 : l0.length ≤ c0) (h : impl_StorePut.f k l0 a1_0 a1_1 a1_2 = some (r1, r2)) :
  Calls Try.prog 11 #[.slice A0 l0.length c0, .agg #[.int .i64 a1_0, .int .i64 a1_1, .int .i64 a1_2]] w fun e w' => ∃ v0_ : Value, e = .returned (.tuple #[v0_, .bool r2]) ∧ Kd.R k30 30 w' w.heap.size (fun _ => True) v0_ r1 ∧ Below w.heap.size w w' := by
 have hu30 := Try.underlying30
 have hu26 := Try.underlying26
 have hu3 := Try.underlying3
 have mixed : Try.prog.follows Departure.mixedOrders = true := by kernel_rfl
 have HR0 := Aside0.mk hr0
 have HC0 := Aside0.mk hc0
 clear hr0 hc0
 obtain ⟨t1, H1, H⟩ := Option.bind_eq_some_iff.mp h
 clear h
 have HA1 := Aside0.mk H1
 clear H1
 have HB := Aside0.mk (Below.refl w.heap.size w)
 go_enter Try.func11, Try.ntmps11
 go_upto_region 1 with ((with_reducible refine gate_dst (N := 3) rfl ?_); refine box_event ?hg (N := 3) ?hd (cs := #[.int .i64 a1_0, .int .i64 a1_1, .int .i64 a1_2]) (t := 30) ?hr ?_; (case hd => rfl); (case hg => rfl); (case hr => first | (go_simp; done) | (go_simp; rfl)); intro gb hg w4 hbox hb; have n0_ := Aside0.mk (below_step HB.out hb); have BK := Aside0.mk (hbox); have GE := Aside0.mk (show w.heap.size ≤ gb by rw [hg]; exact HB.out.size); clear HB; have HB := n0_; clear n0_ hb hbox hg)
 by_cases c1 : t1 = true
 ·subst c1
  have H1 := H
  clear H
  simp only [if_true] at H1
  obtain ⟨t2, H2, H⟩ := Option.bind_eq_some_iff.mp H1
  clear H1
  have HA2 := Aside0.mk H2
  clear H2
  by_cases c2 : t2 = true
  ·subst c2
   rw [if_pos rfl] at H
   by_cases c3 : l0.length + 1 < 5864062014805
   ·rw [if_pos c3] at H
    have HL := Aside0.mk c3
    clear c3
    obtain ⟨⟨i, q⟩, H3, H⟩ := Option.bind_eq_some_iff.mp H
    have HA3 := Aside0.mk H3
    clear H3
    obtain ⟨t3, H4, H⟩ := Option.bind_eq_some_iff.mp H
    have HA4 := Aside0.mk H4
    have HF := Aside0.mk H
    clear H4 H
    go_upto_region 5 with (first
     | (go_at_call 18; (with_reducible refine (impl_StoreValid.calls k A0 c0 l0 true _ ?side1 ?side2 HA1.out).mono ?_); (case side1 => exact Kd.C_below HR0.out HB.out); (case side2 => exact HC0.out); rintro e w' ⟨rfl, hb⟩; have n0_ := Aside0.mk (blk_below (g := gb) BK.out hb); have n1_ := Aside0.mk (below_step HB.out hb); clear BK HB; have BK := n0_; have HB := n1_; clear n0_ n1_ hb; have hcz0 : w'.cell? ⟨gb, 0, none⟩ = some (.int .i64 a1_0) := (blk_cell BK.out 0).trans rfl; have hcz1 : w'.cell? ⟨gb, 1, none⟩ = some (.int .i64 a1_1) := (blk_cell BK.out 1).trans rfl; have hcz2 : w'.cell? ⟨gb, 2, none⟩ = some (.int .i64 a1_2) := (blk_cell BK.out 2).trans rfl)
     | (go_at_call 26; (with_reducible refine (impl_lotValid.calls a1_0 a1_1 a1_2 true _ HA2.out).mono ?_); rintro e w' ⟨rfl, hb⟩; have n0_ := Aside0.mk (blk_below (g := gb) BK.out hb); have n1_ := Aside0.mk (below_step HB.out hb); clear BK HB; have BK := n0_; have HB := n1_; clear n0_ n1_ hb)
     | (go_at_call 27; (with_reducible refine (cloneLots.calls A0 c0 l0 _ ?side1 ?side2 ?side3).mono ?_); (case side1 => exact Kd.C_below HR0.out HB.out); (case side2 => exact HC0.out); (case side3 => have := HL.out; omega); rintro e w' ⟨v, rfl, ho, hb⟩; have HO := Aside0.mk (Kd.R_lower ho HB.out.size); have HNE := Aside0.mk (show ∀ g, v.ownBlock = some g → gb < g from fun g hg => by have := Kd.R_base ho g hg; have := blk_lt BK.out; omega); have n0_ := Aside0.mk (blk_below (g := gb) BK.out hb); have n1_ := Aside0.mk (below_step HB.out hb); clear BK HB; have BK := n0_; have HB := n1_; clear n0_ n1_ hb; clear ho; have hcz0 : w'.cell? ⟨gb, 0, none⟩ = some (.int .i64 a1_0) := (blk_cell BK.out 0).trans rfl; have hcz1 : w'.cell? ⟨gb, 1, none⟩ = some (.int .i64 a1_1) := (blk_cell BK.out 1).trans rfl; have hcz2 : w'.cell? ⟨gb, 2, none⟩ = some (.int .i64 a1_2) := (blk_cell BK.out 2).trans rfl; obtain ⟨A, c, hv, hc⟩ := Kd.R_reads HO.out; subst hv; have HC := Aside0.mk hc; clear hc)
     | (go_at_call 28; (with_reducible refine (searchLots.calls k A c l0 a1_0 a1_1 a1_2 i q _ ?side1 ?side2 ?side3 HA3.out).mono ?_); (case side1 => exact HC.out.2); (case side2 => exact HC.out.1); (case side3 => have := HL.out; omega); rintro e w5 ⟨rfl, hil, hb⟩; have HIL := Aside0.mk hil; have n2_ := Aside0.mk (Kd.R_below HO.out hb); clear HO; have HO := n2_; clear n2_ hil; have n0_ := Aside0.mk (blk_below (g := gb) BK.out hb); have n1_ := Aside0.mk (below_step HB.out hb); clear BK HB; have BK := n0_; have HB := n1_; clear n0_ n1_ hb; have hcz0 : w5.cell? ⟨gb, 0, none⟩ = some (.int .i64 a1_0) := (blk_cell BK.out 0).trans rfl; have hcz1 : w5.cell? ⟨gb, 1, none⟩ = some (.int .i64 a1_1) := (blk_cell BK.out 1).trans rfl; have hcz2 : w5.cell? ⟨gb, 2, none⟩ = some (.int .i64 a1_2) := (blk_cell BK.out 2).trans rfl))
    obtain ⟨L2, hL2⟩ : ∃ L2, L2 = impl_StorePut.put l0 (i, q) ⟨a1_0, a1_1, a1_2⟩ := ⟨_, rfl⟩
    rw [← hL2] at HA4 HF
    cases q with
    | true =>
     have hk := searchLots.known HA3.out
     obtain ⟨g, cap, e, _⟩ := Kd.R_form HO.out (by omega)
     injection e with e1 _ e3
     subst e1 e3
     have ho := own_of_lots HO.out
     obtain ⟨hx2, hf2⟩ := lots_cells ho rfl i hk
     have hgw : w.heap.size ≤ g := Kd.R_base HO.out g rfl
     have hset := lots_set (w := w5.drew) (pw_own_below ho (below_drew (Below.refl _ _))) rfl i hk (wrap64 ((rd_T30 l0 (i : Nat)).f2 + a1_2))
     have hL2' : L2 = l0.set i ⟨(rd_T30 l0 (i : Nat)).f0, (rd_T30 l0 (i : Nat)).f1, wrap64 ((rd_T30 l0 (i : Nat)).f2 + a1_2)⟩ := by rw [hL2]; rfl
     have hlen2 : l0.length = L2.length := by rw [hL2', List.length_set]
     rw [← hL2', hlen2] at hset
     have e6 : w5.drew.setCell ⟨g, i * 3 + 2, none⟩ (.int .i64 (wrap64 ((rd_T30 l0 (i : Nat)).f2 + a1_2))) = (w5.setCell ⟨g, i * 3 + 2, none⟩ (.int .i64 (wrap64 ((rd_T30 l0 (i : Nat)).f2 + a1_2)))).drew := rfl
     rw [e6] at hset
     have HO2 := Aside0.mk (lots_of_own (ok := fun _ => True) hset (fun _ _ => trivial))
     have HC2 := Aside0.mk (Kd.R_reads' HO2.out).2.2
     have HL2 := Aside0.mk (Kd.R_reads' HO2.out).2.1
     have HB2 := Aside0.mk (below_set (j := i * 3 + 2) (v := .int .i64 (wrap64 ((rd_T30 l0 (i : Nat)).f2 + a1_2))) (below_drew1 HB.out) hgw)
     rw [e6] at HB2
     clear e6
     have hq0 : (0 : Int) ≤ (i : Int) := by omega
     have hq1 : (i : Int) < (l0.length : Int) := by omega
     clear hset ho hL2' hL2 hgw hk HA3 HIL HNE HC HO
     go_wp2
     go_region
     all_goals
      by_cases c4 : t3 = true
      ·subst c4
       have hf := HF.out
       simp only [if_true, Option.some.injEq, Prod.mk.injEq] at hf
       obtain ⟨rfl, rfl⟩ := hf
       go_wp2_with (go_at_call 18; (with_reducible refine (impl_StoreValid.calls k _ _ L2 true _ ?side1 ?side2 HA4.out).mono ?_); (case side1 => exact HC2.out); (case side2 => exact HL2.out); rintro e w9 ⟨rfl, hb⟩; have HO9 := Aside0.mk (Kd.R_below HO2.out hb); have HB9 := Aside0.mk (below_step HB2.out hb); clear hb)
       go_ret2
       exact ⟨_, rfl, HO9.out, HB9.out⟩
      ·replace c4 := Bool.eq_false_iff.mpr c4
       subst c4
       have hf := HF.out
       simp only [Bool.false_eq_true, if_false, Option.some.injEq, Prod.mk.injEq] at hf
       obtain ⟨rfl, rfl⟩ := hf
       go_wp2_with (go_at_call 18; (with_reducible refine (impl_StoreValid.calls k _ _ L2 false _ ?side1 ?side2 HA4.out).mono ?_); (case side1 => exact HC2.out); (case side2 => exact HL2.out); rintro e w9 ⟨rfl, hb⟩; have HB9 := Aside0.mk (below_step HB2.out hb); clear hb)
       go_ret2
       exact ⟨_, rfl, Kd.R_nil _ _ _ _ _, HB9.out⟩
    | false =>
     have hL2' : L2 = l0.take i ++ ⟨a1_0, a1_1, a1_2⟩ :: l0.drop i := by rw [hL2]; rfl
     have HLE := Aside0.mk hL2'
     have HLL := Aside0.mk (show (l0.take i ++ (⟨a1_0, a1_1, a1_2⟩ : S30) :: l0.drop i).length = l0.length + 1 by
      have := HIL.out
      rw [List.length_append, List.length_cons, List.length_take, List.length_drop]
      omega)
     clear hL2 hL2' HA3 HC HNE
     by_cases c4 : t3 = true
     ·subst c4
      have hf := HF.out
      simp only [if_true, Option.some.injEq, Prod.mk.injEq] at hf
      obtain ⟨rfl, rfl⟩ := hf
      go_wp2_with (first
      | (go_at_call 18; (with_reducible refine (impl_StoreValid.calls k _ _ L2 true _ ?side1 ?side2 HA4.out).mono ?_); (case side1 => exact HC2.out); (case side2 => exact HL2.out); rintro e w9 ⟨rfl, hb⟩; have HO9 := Aside0.mk (Kd.R_below HO2.out hb); have HB9 := Aside0.mk (below_step HB2.out hb); clear hb)
      | ((with_reducible refine gate_dst (N := 39) rfl ?_); refine Kd.R_lit k30 _ 30 ?hg (N := 39) ?hd (xs := [(⟨a1_0, a1_1, a1_2⟩ : S30)]) (inner := [.int .i64 a1_0, .int .i64 a1_1, .int .i64 a1_2]) (ok := fun _ => True) (okp := fun _ => True) ?hr ?hp (fun _ hk => hk) trivial (Below.refl _ _) (Nat.le_refl _) (by simp) ?_; (case hd => rfl); (case hg => rfl); (case hr => first | (go_simp; done) | (go_simp; rfl)); (case hp => exact lcs_reps (fun p => k30_mkM _ _ _ p) [(⟨a1_0, a1_1, a1_2⟩ : S30)]); intro vv w6 hov hb hg_ hnew_; clear hg_ hnew_; have HV := Aside0.mk (own_weaken (own_of_lots hov) HB.out.size); have HN := Aside0.mk (show ∀ g, (Value.slice A l0.length c).ownBlock = some g → vv.ownBlock ≠ some g from fun g h1 h2 => by have := Kd.R_lt HO.out g h1; have := Kd.R_base hov g h2; omega); have n0_ := Aside0.mk (pw_own_below (own_of_lots HO.out) hb); have n1_ := Aside0.mk (below_step HB.out hb); clear HO HB; have HO := n0_; have HB := n1_; clear n0_ n1_ hb hov)
      | (go_at_call 30; (with_reducible refine (insertLot.calls (.slice A l0.length c) vv l0 ⟨a1_0, a1_1, a1_2⟩ i w.heap.size _ HO.out HIL.out HB.out.size HL.out ?side1 HN.out).mono ?_); (case side1 => have := HV.out; rw [lcs, lcs, List.append_nil] at this; exact this); rintro e w7 ⟨v', rfl, ho, hg⟩; have HB2 := Aside0.mk (below_grown HB.out hg (fun k hk => own_base HO.out k hk)); have HO2 := Aside0.mk (show Kd.R k30 30 w7 w.heap.size (fun _ => True) v' L2 from lots_of_own (by rw [HLE.out, HLL.out]; exact ho) (fun _ _ => trivial)); clear ho hg; obtain ⟨A2, c2, hv, hcl, hC⟩ := Kd.R_reads HO2.out; subst hv; have HC2 := Aside0.mk hC; have HL2 := Aside0.mk hcl; clear hC hcl))
      go_ret2
      exact ⟨_, rfl, HO9.out, HB9.out⟩
     ·replace c4 := Bool.eq_false_iff.mpr c4
      subst c4
      have hf := HF.out
      simp only [Bool.false_eq_true, if_false, Option.some.injEq, Prod.mk.injEq] at hf
      obtain ⟨rfl, rfl⟩ := hf
      go_wp2_with (first
      | (go_at_call 18; (with_reducible refine (impl_StoreValid.calls k _ _ L2 false _ ?side1 ?side2 HA4.out).mono ?_); (case side1 => exact HC2.out); (case side2 => exact HL2.out); rintro e w9 ⟨rfl, hb⟩; have HB9 := Aside0.mk (below_step HB2.out hb); clear hb)
      | ((with_reducible refine gate_dst (N := 39) rfl ?_); refine Kd.R_lit k30 _ 30 ?hg (N := 39) ?hd (xs := [(⟨a1_0, a1_1, a1_2⟩ : S30)]) (inner := [.int .i64 a1_0, .int .i64 a1_1, .int .i64 a1_2]) (ok := fun _ => True) (okp := fun _ => True) ?hr ?hp (fun _ hk => hk) trivial (Below.refl _ _) (Nat.le_refl _) (by simp) ?_; (case hd => rfl); (case hg => rfl); (case hr => first | (go_simp; done) | (go_simp; rfl)); (case hp => exact lcs_reps (fun p => k30_mkM _ _ _ p) [(⟨a1_0, a1_1, a1_2⟩ : S30)]); intro vv w6 hov hb hg_ hnew_; clear hg_ hnew_; have HV := Aside0.mk (own_weaken (own_of_lots hov) HB.out.size); have HN := Aside0.mk (show ∀ g, (Value.slice A l0.length c).ownBlock = some g → vv.ownBlock ≠ some g from fun g h1 h2 => by have := Kd.R_lt HO.out g h1; have := Kd.R_base hov g h2; omega); have n0_ := Aside0.mk (pw_own_below (own_of_lots HO.out) hb); have n1_ := Aside0.mk (below_step HB.out hb); clear HO HB; have HO := n0_; have HB := n1_; clear n0_ n1_ hb hov)
      | (go_at_call 30; (with_reducible refine (insertLot.calls (.slice A l0.length c) vv l0 ⟨a1_0, a1_1, a1_2⟩ i w.heap.size _ HO.out HIL.out HB.out.size HL.out ?side1 HN.out).mono ?_); (case side1 => have := HV.out; rw [lcs, lcs, List.append_nil] at this; exact this); rintro e w7 ⟨v', rfl, ho, hg⟩; have HB2 := Aside0.mk (below_grown HB.out hg (fun k hk => own_base HO.out k hk)); have HO2 := Aside0.mk (show Kd.R k30 30 w7 w.heap.size (fun _ => True) v' L2 from lots_of_own (by rw [HLE.out, HLL.out]; exact ho) (fun _ _ => trivial)); clear ho hg; obtain ⟨A2, c2, hv, hcl, hC⟩ := Kd.R_reads HO2.out; subst hv; have HC2 := Aside0.mk hC; have HL2 := Aside0.mk hcl; clear hC hcl))
      go_ret2
      exact ⟨_, rfl, Kd.R_nil _ _ _ _ _, HB9.out⟩
   ·rw [if_neg c3] at H
    cases H
  ·rw [if_neg c2] at H
   replace c2 := Bool.eq_false_iff.mpr c2
   subst c2
   simp only [Option.some.injEq, Prod.mk.injEq] at H
   obtain ⟨rfl, rfl⟩ := H
   go_wp2_with (first
    | (go_at_call 18; (with_reducible refine (impl_StoreValid.calls k A0 c0 l0 true _ ?side1 ?side2 HA1.out).mono ?_); (case side1 => exact Kd.C_below HR0.out HB.out); (case side2 => exact HC0.out); rintro e w' ⟨rfl, hb⟩; have n0_ := Aside0.mk (blk_below (g := gb) BK.out hb); have n1_ := Aside0.mk (below_step HB.out hb); clear BK HB; have BK := n0_; have HB := n1_; clear n0_ n1_ hb; have hcz0 : w'.cell? ⟨gb, 0, none⟩ = some (.int .i64 a1_0) := (blk_cell BK.out 0).trans rfl; have hcz1 : w'.cell? ⟨gb, 1, none⟩ = some (.int .i64 a1_1) := (blk_cell BK.out 1).trans rfl; have hcz2 : w'.cell? ⟨gb, 2, none⟩ = some (.int .i64 a1_2) := (blk_cell BK.out 2).trans rfl)
    | (go_at_call 26; (with_reducible refine (impl_lotValid.calls a1_0 a1_1 a1_2 false _ HA2.out).mono ?_); rintro e w' ⟨rfl, hb⟩; have n0_ := Aside0.mk (blk_below (g := gb) BK.out hb); have n1_ := Aside0.mk (below_step HB.out hb); clear BK HB; have BK := n0_; have HB := n1_; clear n0_ n1_ hb))
   go_ret2
   exact ⟨_, rfl, Kd.R_nil _ _ _ _ _, HB.out⟩
 ·rw [if_neg c1] at H
  replace c1 := Bool.eq_false_iff.mpr c1
  subst c1
  simp only [Option.some.injEq, Prod.mk.injEq] at H
  obtain ⟨rfl, rfl⟩ := H
  go_wp2_with (first
   | (go_at_call 18; (with_reducible refine (impl_StoreValid.calls k A0 c0 l0 false _ ?side1 ?side2 HA1.out).mono ?_); (case side1 => exact Kd.C_below HR0.out HB.out); (case side2 => exact HC0.out); rintro e w' ⟨rfl, hb⟩; have n0_ := Aside0.mk (blk_below (g := gb) BK.out hb); have n1_ := Aside0.mk (below_step HB.out hb); clear BK HB; have BK := n0_; have HB := n1_; clear n0_ n1_ hb; have hcz0 : w'.cell? ⟨gb, 0, none⟩ = some (.int .i64 a1_0) := (blk_cell BK.out 0).trans rfl; have hcz1 : w'.cell? ⟨gb, 1, none⟩ = some (.int .i64 a1_1) := (blk_cell BK.out 1).trans rfl; have hcz2 : w'.cell? ⟨gb, 2, none⟩ = some (.int .i64 a1_2) := (blk_cell BK.out 2).trans rfl))
  go_ret2
  exact ⟨_, rfl, Kd.R_nil _ _ _ _ _, HB.out⟩


end Go.Proofs.Ytfnngpfkcnfhiaa.PAll
