/-
  Contracts and lemmas, joined in one text.
-/
import Derived.Test.YtndilfigdbenoaaDoorWB
import Derived.Test.YtndilfigdbenoaaDoorM6
set_option linter.unusedVariables false
set_option linter.unusedSimpArgs false
/-
  What comes late, where two parts of what was told may be taken in either order.
-/
set_option maxRecDepth 100000
set_option maxHeartbeats 16000000
namespace Go.Proofs.YtndilfigdbenoaaDoor
open Go.RowKit
def isReady (ops : Array Oper) (L : Nat → Bool) (k : Nat) : Bool :=
  match ops[k]? with
  | some o => o.guard.isNone && !L k && (needs o).all fun i => L i && Nat.blt i ops.size
  | none => false
def lateS (ops : Array Oper) (L : Nat → Bool) (rs : List Nat) : Bool :=
  rs.all (isReady ops L) && !rs.isEmpty && (List.range ops.size).all fun k => rs.contains k || L k || match ops[k]? with | some o => (needs o).any fun i => !L i | none => true
structure LateS (P : Program) (ops : Array Oper) (Q : Exit → Act → World → Prop) (Bl : List (Nat × List Value × TypeId)) (L : Nat → Bool) (cnt : Nat) (a : Act) (w : World) : Prop where
  out : ∀ fuel listed, ops.size ≤ fuel + cnt → listed.size = ops.size → (∀ i, i < ops.size → Up listed i = L i) → wpAnyH P .any ops Q (HeldS Bl) fuel listed a w
section
variable {P : Program} {Q : Exit → Act → World → Prop} {Bl : List (Nat × List Value × TypeId)} {a : Act} {w : World} {ops : Array Oper}
theorem LateS.step {L : Nat → Bool} {cnt : Nat} (rs : List Nat) (hB : lateS ops L rs = true) (hc : cnt < ops.size)
  (h : ∀ i ∈ rs, ∀ o, ops[i]? = some o → OW P o a w (fun a' w' => HeldS Bl w' ∧ LateS P ops Q Bl (fun k => L k || k == i) (cnt + 1) a' w') Q) : LateS P ops Q Bl L cnt a w := by
 refine ⟨?_⟩
 intro fuel listed hfuel hsz hup
 unfold lateS at hB
 simp only [Bool.and_eq_true] at hB
 obtain ⟨⟨h1, h2⟩, h3⟩ := hB
 have hblt : ∀ i k, Nat.blt i k = true ↔ i < k := fun i k => by rw [Nat.blt_eq]
 have hin : ∀ i, i ∈ Region.ready .any ops listed → i ∈ rs ∧ i < ops.size := fun i hi => by
  obtain ⟨hu, o2, ho2, hall⟩ := mem_ready.1 hi
  have hil : i < ops.size := (Array.getElem?_eq_some_iff.1 ho2).1
  have hu' : Up listed i = false := (getD_same (by omega)).symm.trans hu
  rw [hup i hil] at hu'
  have h4 := List.all_eq_true.1 h3 i (List.mem_range.2 hil)
  rw [ho2, hu', Bool.or_false] at h4
  refine ⟨?_, hil⟩
  rcases Bool.or_eq_true_iff.1 h4 with h4 | h4
  ·exact List.contains_iff_mem.1 h4
  ·obtain ⟨k, hk, hjk⟩ := List.any_eq_true.1 h4
   obtain ⟨e, he, hb, rfl⟩ := mem_needs.1 hk
   have hl : Up listed e.on = true := hall e he hb
   have hel : e.on < ops.size := by
    rcases Nat.lt_or_ge e.on listed.size with h | h
    ·omega
    ·unfold Up at hl; simp [Array.getD, Nat.not_lt.2 h] at hl
   rw [hup e.on hel] at hl
   rw [hl] at hjk
   cases hjk
 have hr : ∀ i, i ∈ rs → i < ops.size ∧ i ∈ Region.ready .any ops listed ∧ ∃ o, ops[i]? = some o ∧ o.guard = none := fun i hi => by
  have h4 := List.all_eq_true.1 h1 i hi
  unfold isReady at h4
  cases ho : ops[i]? with
  | none => rw [ho] at h4; cases h4
  | some o =>
   rw [ho] at h4
   simp only [Bool.and_eq_true, Bool.not_eq_true'] at h4
   obtain ⟨⟨g1, g2⟩, g3⟩ := h4
   have hil : i < ops.size := (Array.getElem?_eq_some_iff.1 ho).1
   refine ⟨hil, mem_ready.2 ⟨(getD_same (by omega)).trans ((hup i hil).trans g2), o, ho, fun e he hb => ?_⟩, o, rfl, by simpa using g1⟩
   have h5 := List.all_eq_true.1 g3 e.on (mem_needs.2 ⟨e, he, hb, rfl⟩)
   rw [Bool.and_eq_true] at h5
   have : Up listed e.on = true := (hup e.on ((hblt _ _).1 h5.2)).trans h5.1
   exact this
 obtain ⟨fuel, rfl⟩ : ∃ k, fuel = k + 1 := ⟨fuel - 1, by omega⟩
 refine ⟨fun hnil => ?_, fun i hi => ?_⟩
 ·cases rs with
  | nil => simp at h2
  | cons x l => have := (hr x List.mem_cons_self).2.1; rw [hnil] at this; cases this
 ·obtain ⟨hi2, hil⟩ := hin i hi
  obtain ⟨_, _, o, ho, hg⟩ := hr i hi2
  unfold wpOp
  rw [ho]
  have hw : Region.wanted o (yielded ops a.tmps) = true := by simp [Region.wanted, hg]
  simp only [hw, if_true]
  refine .inl (Oper.wp_mono (fun a' w' h' => ⟨h'.1, ?_⟩) (h i hi2 o ho).out)
  refine h'.2.out fuel _ (by omega) (by simp [hsz]) (fun k hk => ?_)
  rw [up_set (by omega)]
  show (Up listed k || k == i) = (L k || k == i)
  rw [hup k hk]
theorem LateS.late {j : Nat} (h : LateS P ops Q Bl (fun k => Nat.blt k j) j a w) : Late P ops Q Bl j a w := ⟨h.out⟩
theorem Late.set {j : Nat} {L : Nat → Bool} (h : Late P ops Q Bl j a w) (hL : ∀ i, L i = Nat.blt i j) : LateS P ops Q Bl L j a w := ⟨fun fuel listed h1 h2 h3 => h.out fuel listed h1 h2 fun i hi => (h3 i hi).trans (hL i)⟩
end
def late3 (ops : Array Oper) (j : Nat) : Bool :=
  lateS ops (fun k => Nat.blt k j) [j, j + 1] && lateS ops (fun k => Nat.blt k j || k == j) [j + 1, j + 2] && lateS ops (fun k => Nat.blt k j || k == j + 1) [j] &&
  lateS ops (fun k => (Nat.blt k j || k == j) || k == j + 1) [j + 2] && lateS ops (fun k => (Nat.blt k j || k == j) || k == j + 2) [j + 1] && lateS ops (fun k => (Nat.blt k j || k == j + 1) || k == j) [j + 2]
theorem upd_comm3 {f : Nat → Value} {a b : Nat} {u v : Value} (h : a ≠ b) : upd (upd f a u) b v = upd (upd f b v) a u := by
 funext d
 by_cases h1 : d = a
 ·subst h1; rw [upd_ne _ _ h, upd_same, upd_same]
 ·by_cases h2 : d = b
  ·subst h2; rw [upd_same, upd_ne _ _ h1, upd_same]
  ·rw [upd_ne _ _ h2, upd_ne _ _ h1, upd_ne _ _ h1, upd_ne _ _ h2]
theorem wlate3 {P : Program} {Q : Exit → Act → World → Prop} {Bl : List (Nat × List Value × TypeId)} {w : World} {l : List Oper} {n : Nat} {f : Nat → Value} (j : Nat) {oA oB oC : Oper} {s dA dB dC i i' : Nat} {vs : List Value} {va vb : Value}
  (hA : l.toArray[j]? = some oA) (hB : l.toArray[j + 1]? = some oB) (hC : l.toArray[j + 2]? = some oC) (hb : late3 l.toArray j = true)
  (pA : oA.op = .extract (.tmp s) i) (pB : oB.op = .extract (.tmp s) i') (pC : oC.op = .assign (.tmp dA)) (qA : oA.dst = some dA) (qB : oB.dst = some dB) (qC : oC.dst = some dC)
  (hn : (Nat.blt s n && Nat.blt dA n && !(s == dA) && !(s == dB) && !(s == dC) && !(dA == dB) && !(dA == dC) && !(dB == dC)) = true)
  (hs : f s = .tuple vs.toArray) (hva : vs[i]? = some va) (hvb : vs[i']? = some vb) (hBl : HeldS Bl w)
  (hK : Late P l.toArray Q Bl (j + 3) (act n (upd (upd (upd f dA va) dB vb) dC va)) w) : Late P l.toArray Q Bl j (act n f) w := by
 have hsz : j + 2 < l.toArray.size := (Array.getElem?_eq_some_iff.1 hC).1
 unfold late3 at hb
 simp only [Bool.and_eq_true, Bool.not_eq_true', beq_eq_false_iff_ne] at hb hn
 obtain ⟨⟨⟨⟨⟨b1, b2⟩, b3⟩, b4⟩, b5⟩, b6⟩ := hb
 obtain ⟨⟨⟨⟨⟨⟨⟨n1, n2⟩, n3⟩, n4⟩, n5⟩, n6⟩, n7⟩, n8⟩ := hn
 have eA : ∀ f' : Nat → Value, f' s = .tuple vs.toArray → ∀ K : Act → World → Prop, K (act n (upd f' dA va)) w → OW P oA (act n f') w K Q := fun f' h K hk => oextract pA qA ((act_eval n1).trans h) hva hk
 have eB : ∀ f' : Nat → Value, f' s = .tuple vs.toArray → ∀ K : Act → World → Prop, K (act n (upd f' dB vb)) w → OW P oB (act n f') w K Q := fun f' h K hk => oextract pB qB ((act_eval n1).trans h) hvb hk
 have eC : ∀ f' : Nat → Value, f' dA = va → ∀ K : Act → World → Prop, K (act n (upd f' dC va)) w → OW P oC (act n f') w K Q := fun f' h K hk => oassign pC qC ((act_eval n2).trans h) hk
 have fin : ∀ (L : Nat → Bool) (f' : Nat → Value), (∀ k, L k = Nat.blt k (j + 3)) → f' = upd (upd (upd f dA va) dB vb) dC va → LateS P l.toArray Q Bl L (j + 1 + 1 + 1) (act n f') w := fun L f' hL e => by
  subst e; exact Late.set hK hL
 have bl : ∀ i k, Nat.blt i k = true ↔ i < k := fun i k => by rw [Nat.blt_eq]
 have hL : ∀ (x y z : Nat), (x = j ∧ y = j + 1 ∧ z = j + 2) ∨ (x = j ∧ y = j + 2 ∧ z = j + 1) ∨ (x = j + 1 ∧ y = j ∧ z = j + 2) → ∀ k, (((Nat.blt k j || k == x) || k == y) || k == z) = Nat.blt k (j + 3) := fun x y z h k => by
  rw [Bool.eq_iff_iff]
  simp only [Bool.or_eq_true, bl, beq_iff_eq]
  omega
 refine LateS.late (LateS.step [j, j + 1] b1 (by omega) fun x hx o ho => ?_)
 rcases List.mem_cons.1 hx with rfl | hx
 ·-- the first part first
  obtain rfl : oA = o := Option.some.inj (hA.symm.trans ho)
  refine eA f hs _ ⟨hBl, LateS.step [x + 1, x + 2] b2 (by omega) fun y hy o ho2 => ?_⟩
  rcases List.mem_cons.1 hy with rfl | hy
  ·obtain rfl : oB = o := Option.some.inj (hB.symm.trans ho2)
   refine eB _ (by rw [upd_ne _ _ n3, hs]) _ ⟨hBl, LateS.step [x + 2] b4 (by omega) fun z hz o ho3 => ?_⟩
   obtain rfl := List.mem_singleton.1 hz
   obtain rfl : oC = o := Option.some.inj (hC.symm.trans ho3)
   exact eC _ (by rw [upd_ne _ _ n6, upd_same]) _ ⟨hBl, fin _ _ (hL _ _ _ (.inl ⟨rfl, rfl, rfl⟩)) rfl⟩
  ·obtain rfl := List.mem_singleton.1 hy
   obtain rfl : oC = o := Option.some.inj (hC.symm.trans ho2)
   refine eC _ (upd_same ..) _ ⟨hBl, LateS.step [x + 1] b5 (by omega) fun z hz o ho3 => ?_⟩
   obtain rfl := List.mem_singleton.1 hz
   obtain rfl : oB = o := Option.some.inj (hB.symm.trans ho3)
   exact eB _ (by rw [upd_ne _ _ n5, upd_ne _ _ n3, hs]) _ ⟨hBl, fin _ _ (hL _ _ _ (.inr (.inl ⟨rfl, rfl, rfl⟩))) (upd_comm3 (fun e => n8 e.symm))⟩
 ·obtain rfl := List.mem_singleton.1 hx
  obtain rfl : oB = o := Option.some.inj (hB.symm.trans ho)
  refine eB f hs _ ⟨hBl, LateS.step [j] b3 (by omega) fun y hy o ho2 => ?_⟩
  obtain rfl := List.mem_singleton.1 hy
  obtain rfl : oA = o := Option.some.inj (hA.symm.trans ho2)
  refine eA _ (by rw [upd_ne _ _ n4, hs]) _ ⟨hBl, LateS.step [y + 2] b6 (by omega) fun z hz o ho3 => ?_⟩
  obtain rfl := List.mem_singleton.1 hz
  obtain rfl : oC = o := Option.some.inj (hC.symm.trans ho3)
  refine eC _ (upd_same ..) _ ⟨hBl, fin _ _ (hL _ _ _ (.inr (.inr ⟨rfl, rfl, rfl⟩))) ?_⟩
  rw [upd_comm3 (fun e => n6 e.symm)]
end Go.Proofs.YtndilfigdbenoaaDoor
/-
  modmat's Rank; Det of any matrix.
-/
namespace Go.Proofs.YtndilfigdbenoaaDoor
open Go.RowKit
def rkP (p : Nat) (M : List (List Nat)) : Nat := (redTo p (modM p M) (colsM M)).2.length
def dtP (p : Nat) (M : List (List Nat)) : Nat := if M.length ≠ 0 ∧ M.length = colsM M then detTo p (modM p M) (colsM M) else 0
def deP (M : List (List Nat)) : Nat := if M.length ≠ 0 ∧ M.length = colsM M then 0 else 3
theorem wxrank40 {pm : Option Addr} {nm cm p : Nat} {M : List (List Nat)} {w : World} (ht : Tb w) (hm : MS w pm nm M) (hp2 : p < 4294967296) (hs : SmallM M) (hp : ¬ MR.Pr p) :
  Calls Tryd.prog 21 #[.slice pm nm cm, .int .u32 ((p : Nat) : Int)] w (Ret (Is (.tuple #[.int .i64 0, .int .i64 40])) w) := by
 have hS := Sep.init w
 refine went Tryd.func21 rfl (n := 33) rfl rfl ?_
 refine wseq (wreg (wl rfl (oassign (v := .int .i64 0) rfl rfl evc ?_)))
 refine wl rfl (oassign (v := .int .i64 0) rfl rfl evc ?_)
 refine wnil (thenN (wseq (wreg (wl rfl (omove (v := .int .u32 (p : Int)) rfl rfl (ev rfl rfl) ?_)))))
 refine wl rfl (omove (v := .slice pm nm cm) rfl rfl (ev rfl rfl) ?_)
 refine wl rfl (obslice (ps := #[(0, .slice pm nm cm)]) (z := .slice none 0 0) [.slice pm nm cm] hS rfl rfl Tryd.runUnderlying81 Tryd.sizeOf26 Tryd.zeroValue26 (parts1 (ev (v := .slice pm nm cm) rfl rfl)) rfl (by decide) (fill1_1s rfl rfl) ?_)
 clear hS; intro g1 w2 hS
 refine wl rfl (ocall rfl rfl Tryd.call45 rfl (wxall40 (ht.at hS) (LMS.one (hS.blkAt 0 rfl) (hm.at hS)) hp2 (by omega) (fun N h => by rw [List.mem_singleton.1 h]; exact hs) (hp)) (args2 (ev rfl rfl) (ev rfl rfl)) ?_)
 rintro _ w3 ⟨_, _, rfl, ⟨rfl, rfl⟩, hN⟩
 refine ⟨_, rfl, ?_⟩
 replace hS := hS.news hN; clear hN
 refine wl rfl (omove (v := .tuple #[.slice none 0 0, .int .i64 40]) rfl rfl (ev rfl rfl) ?_)
 refine wl rfl (oextract (vs := [.slice none 0 0, .int .i64 40]) (v := .slice none 0 0) rfl rfl (ev rfl rfl) rfl ?_)
 refine wl rfl (oextract (vs := [.slice none 0 0, .int .i64 40]) (v := .int .i64 40) rfl rfl (ev rfl rfl) rfl ?_)
 refine wl rfl (oassign (v := .slice none 0 0) rfl rfl (ev rfl rfl) ?_)
 refine wl rfl (oassign (v := .int .i64 40) rfl rfl (ev rfl rfl) ?_)
 refine wnil (thenN (wseq (wseq (wreg (wl rfl (omove (v := .int .i64 40) rfl rfl (ev rfl rfl) ?_))))))
 refine wl rfl (obin (u := .int .i64 40) (v := .int .i64 0) (z := .bool true) rfl rfl (ev rfl rfl) evc (bin_neq (by decide)) ?_)
 refine wnil (thenN ?_)
 refine wT (ev rfl rfl) ?_
 refine wseq (wreg (wl rfl (omove (v := .int .i64 40) rfl rfl (ev rfl rfl) ?_)))
 refine wl rfl (oassign (v := .int .i64 0) rfl rfl evc ?_)
 refine wl rfl (oassign (v := .int .i64 40) rfl rfl (ev rfl rfl) ?_)
 refine wnil (thenN ?_)
 refine wleave ?_
 refine thenR ?_
 refine wret2 Tryd.results21 (tellT (v := .int .i64 0) rfl rfl) (tellT (v := .int .i64 40) rfl rfl) ?_
 exact ⟨_, _, rfl, isI, hS.new0⟩
theorem wxrank2 {pm : Option Addr} {nm cm p : Nat} {M : List (List Nat)} {w : World} (ht : Tb w) (hm : MS w pm nm M) (hp2 : p < 4294967296) (hs : SmallM M) (hp : MR.Pr p) (hr : ¬ RectM M) :
  Calls Tryd.prog 21 #[.slice pm nm cm, .int .u32 ((p : Nat) : Int)] w (Ret (Is (.tuple #[.int .i64 0, .int .i64 2])) w) := by
 have hS := Sep.init w
 refine went Tryd.func21 rfl (n := 33) rfl rfl ?_
 refine wseq (wreg (wl rfl (oassign (v := .int .i64 0) rfl rfl evc ?_)))
 refine wl rfl (oassign (v := .int .i64 0) rfl rfl evc ?_)
 refine wnil (thenN (wseq (wreg (wl rfl (omove (v := .int .u32 (p : Int)) rfl rfl (ev rfl rfl) ?_)))))
 refine wl rfl (omove (v := .slice pm nm cm) rfl rfl (ev rfl rfl) ?_)
 refine wl rfl (obslice (ps := #[(0, .slice pm nm cm)]) (z := .slice none 0 0) [.slice pm nm cm] hS rfl rfl Tryd.runUnderlying81 Tryd.sizeOf26 Tryd.zeroValue26 (parts1 (ev (v := .slice pm nm cm) rfl rfl)) rfl (by decide) (fill1_1s rfl rfl) ?_)
 clear hS; intro g1 w2 hS
 refine wl rfl (ocall rfl rfl Tryd.call45 rfl (wxallE (ht.at hS) (LMS.one (hS.blkAt 0 rfl) (hm.at hS)) hp2 (by omega) (fun N h => by rw [List.mem_singleton.1 h]; exact hs) (hp) (fun h => hr (h M (by simp)))) (args2 (ev rfl rfl) (ev rfl rfl)) ?_)
 rintro _ w3 ⟨_, _, rfl, ⟨rfl, rfl⟩, hN⟩
 refine ⟨_, rfl, ?_⟩
 replace hS := hS.news hN; clear hN
 refine wl rfl (omove (v := .tuple #[.slice none 0 0, .int .i64 2]) rfl rfl (ev rfl rfl) ?_)
 refine wl rfl (oextract (vs := [.slice none 0 0, .int .i64 2]) (v := .slice none 0 0) rfl rfl (ev rfl rfl) rfl ?_)
 refine wl rfl (oextract (vs := [.slice none 0 0, .int .i64 2]) (v := .int .i64 2) rfl rfl (ev rfl rfl) rfl ?_)
 refine wl rfl (oassign (v := .slice none 0 0) rfl rfl (ev rfl rfl) ?_)
 refine wl rfl (oassign (v := .int .i64 2) rfl rfl (ev rfl rfl) ?_)
 refine wnil (thenN (wseq (wseq (wreg (wl rfl (omove (v := .int .i64 2) rfl rfl (ev rfl rfl) ?_))))))
 refine wl rfl (obin (u := .int .i64 2) (v := .int .i64 0) (z := .bool true) rfl rfl (ev rfl rfl) evc (bin_neq (by decide)) ?_)
 refine wnil (thenN ?_)
 refine wT (ev rfl rfl) ?_
 refine wseq (wreg (wl rfl (omove (v := .int .i64 2) rfl rfl (ev rfl rfl) ?_)))
 refine wl rfl (oassign (v := .int .i64 0) rfl rfl evc ?_)
 refine wl rfl (oassign (v := .int .i64 2) rfl rfl (ev rfl rfl) ?_)
 refine wnil (thenN ?_)
 refine wleave ?_
 refine thenR ?_
 refine wret2 Tryd.results21 (tellT (v := .int .i64 0) rfl rfl) (tellT (v := .int .i64 2) rfl rfl) ?_
 exact ⟨_, _, rfl, isI, hS.new0⟩
theorem wxrank {pm : Option Addr} {nm cm p : Nat} {M : List (List Nat)} {w : World} (ht : Tb w) (hm : MS w pm nm M) (hp2 : p < 4294967296) (hs : SmallM M) (hp : MR.Pr p) (hr : RectM M) :
  Calls Tryd.prog 21 #[.slice pm nm cm, .int .u32 ((p : Nat) : Int)] w (Ret (Is (.tuple #[.int .i64 ((rkP p M : Nat) : Int), .int .i64 0])) w) := by
 have hcb := hs.cols
 have hnb := hs.1
 have hp1 := hp.1
 have hp0 : 0 < p := by omega
 have hshM := hr.shp hp0
 have hS := Sep.init w
 refine went Tryd.func21 rfl (n := 33) rfl rfl ?_
 refine wseq (wreg (wl rfl (oassign (v := .int .i64 0) rfl rfl evc ?_)))
 refine wl rfl (oassign (v := .int .i64 0) rfl rfl evc ?_)
 refine wnil (thenN (wseq (wreg (wl rfl (omove (v := .int .u32 (p : Int)) rfl rfl (ev rfl rfl) ?_)))))
 refine wl rfl (omove (v := .slice pm nm cm) rfl rfl (ev rfl rfl) ?_)
 refine wl rfl (obslice (ps := #[(0, .slice pm nm cm)]) (z := .slice none 0 0) [.slice pm nm cm] hS rfl rfl Tryd.runUnderlying81 Tryd.sizeOf26 Tryd.zeroValue26 (parts1 (ev (v := .slice pm nm cm) rfl rfl)) rfl (by decide) (fill1_1s rfl rfl) ?_)
 clear hS; intro g1 w2 hS
 refine wl rfl (ocall rfl rfl Tryd.call45 rfl (wxall1 (ht.at hS) (hS.blkAt 0 rfl) (hm.at hS) (hp) hp2 (hs) (hr)) (args2 (ev rfl rfl) (ev rfl rfl)) ?_)
 rintro _ w3 ⟨_, _, rfl, ⟨pL, cL, pX, cX, QX, hQX, rfl, rfl⟩, hN⟩
 refine ⟨_, rfl, ?_⟩
 replace hS := hS.news hN; clear hN
 refine wl rfl (omove (v := .tuple #[.slice pL 1 cL, .int .i64 0]) rfl rfl (ev rfl rfl) ?_)
 refine wl rfl (oextract (vs := [.slice pL 1 cL, .int .i64 0]) (v := .slice pL 1 cL) rfl rfl (ev rfl rfl) rfl ?_)
 refine wl rfl (oextract (vs := [.slice pL 1 cL, .int .i64 0]) (v := .int .i64 0) rfl rfl (ev rfl rfl) rfl ?_)
 refine wl rfl (oassign (v := .slice pL 1 cL) rfl rfl (ev rfl rfl) ?_)
 refine wl rfl (oassign (v := .int .i64 0) rfl rfl (ev rfl rfl) ?_)
 refine wnil (thenN (wseq (wseq (wreg (wl rfl (omove (v := .int .i64 0) rfl rfl (ev rfl rfl) ?_))))))
 refine wl rfl (obin (u := .int .i64 0) (v := .int .i64 0) (z := .bool false) rfl rfl (ev rfl rfl) evc (bin_neq (by decide)) ?_)
 refine wnil (thenN ?_)
 refine wF (ev rfl rfl) ?_
 refine wskip (thenN (wseq ?_))
 obtain ⟨gl4, hgl4⟩ := hS.lstPtr 1 rfl (by omega)
 refine wstage 7 [21, 22, 23, 24, 25, 26, 27] [[], [0], [1, 0], [], [3], [4, 3], [5, 3, 4]] [[], [], [], [], [], [], []] [] [] (fun i9 => ([fun _ => Is (.slice pL 1 cL), fun _ => Is (.pointer (some ⟨gl4, 0, none⟩)), fun _ => Is (.agg #[.int .u64 (p : Int), .slice pX M.length cX, .int .i64 (((colsM M : Nat) : Int))]), fun _ => Is (.slice pL 1 cL), fun _ => Is (.pointer (some ⟨gl4, 0, none⟩)), fun _ => Is (.pointer (some ⟨gl4, 2, none⟩)), fun _ => Is (.int .i64 (((colsM M : Nat) : Int)))] : List (List Value → Tell)).getD i9 (fun _ _ _ => False)) (heldNil) (fun d _ _ _ _ h => (by cases d <;> exact h)) (by kernel_rfl) (by kernel_rfl) (by kernel_rfl) hS ?_ ?_
 ·
  refine stepsCons rfl (fun Q f' w' ρ S ho hT hS hB => ?_) ?_
  ·exact .inl ⟨want_none rfl, omove (v := .slice pL 1 cL) rfl rfl (ev rfl (ho 6 rfl)) ⟨_, _, rfl, isI, New.same _⟩⟩
  refine stepsCons rfl (fun Q f' w' ρ S ho hT hS hB => ?_) ?_
  ·obtain ⟨hv0, hr0⟩ := (hT 0 21 rfl rfl : (Is (.slice pL 1 cL)) _ _)
   obtain hS := hS.flat1 hr0
   exact .inl ⟨want_none rfl, oindex (p := pL) (g := gl4) (off := 0) (m := 1) (k := 0) (j := 0) rfl rfl Tryd.runUnderlying73 Tryd.sizeOf63 (ev rfl hv0) (hgl4) evc (by omega) rfl ⟨_, _, rfl, isI, New.same _⟩⟩
  refine stepsCons rfl (fun Q f' w' ρ S ho hT hS hB => ?_) ?_
  ·obtain ⟨hv1, hr1⟩ := (hT 1 22 rfl rfl : (Is (.pointer (some ⟨gl4, 0, none⟩))) _ _)
   obtain hS := hS.flat1 hr1
   exact .inl ⟨want_none rfl, oloadA (vs := [.int .u64 (p : Int), .slice pX M.length cX, .int .i64 (((colsM M : Nat) : Int))]) (show Agg Tryd.prog 63 3 from ⟨Tryd.isAgg63, Tryd.sizeOf63⟩) rfl rfl (ev (v := .pointer (some ⟨gl4, 0, none⟩)) rfl hv1) (hS.lstAtA 1 rfl hgl4 0 rfl (by omega) rfl) rfl ⟨_, _, rfl, isI, New.same _⟩⟩
  refine stepsCons rfl (fun Q f' w' ρ S ho hT hS hB => ?_) ?_
  ·exact .inl ⟨want_none rfl, omove (v := .slice pL 1 cL) rfl rfl (ev rfl (ho 6 rfl)) ⟨_, _, rfl, isI, New.same _⟩⟩
  refine stepsCons rfl (fun Q f' w' ρ S ho hT hS hB => ?_) ?_
  ·obtain ⟨hv3, hr3⟩ := (hT 3 24 rfl rfl : (Is (.slice pL 1 cL)) _ _)
   obtain hS := hS.flat1 hr3
   exact .inl ⟨want_none rfl, oindex (p := pL) (g := gl4) (off := 0) (m := 1) (k := 0) (j := 0) rfl rfl Tryd.runUnderlying73 Tryd.sizeOf63 (ev rfl hv3) (hgl4) evc (by omega) rfl ⟨_, _, rfl, isI, New.same _⟩⟩
  refine stepsCons rfl (fun Q f' w' ρ S ho hT hS hB => ?_) ?_
  ·obtain ⟨hv4, hr4⟩ := (hT 4 25 rfl rfl : (Is (.pointer (some ⟨gl4, 0, none⟩))) _ _)
   obtain hS := hS.flat1 hr4
   exact .inl ⟨want_none rfl, ofieldAddr (g := gl4) (off := 0) 2 rfl rfl (ev rfl hv4) Tryd.runUnderlying63 rfl Tryd.sizeOf3 rfl ⟨_, _, rfl, isI, New.same _⟩⟩
  refine stepsCons rfl (fun Q f' w' ρ S ho hT hS hB => ?_) ?_
  ·obtain ⟨hv5, hr5⟩ := (hT 5 26 rfl rfl : (Is (.pointer (some ⟨gl4, 2, none⟩))) _ _)
   obtain hS := hS.flat1 hr5
   exact .inl ⟨want_none rfl, oloadc (v := .int .i64 (((colsM M : Nat) : Int))) oneI rfl rfl (ev (v := .pointer (some ⟨gl4, 2, none⟩)) rfl hv5) (hS.lstAt 1 rfl hgl4 0 2 rfl rfl (by omega) rfl) ⟨_, _, rfl, isI, New.same _⟩⟩
  exact stepsNil
 ·
  intro vs ρ w5 f' hf hT hS
  obtain ⟨hv0, hr0⟩ := (hT 0 (by decide) : (Is (.slice pL 1 cL)) _ _)
  obtain ⟨hv1, hr1⟩ := (hT 1 (by decide) : (Is (.pointer (some ⟨gl4, 0, none⟩))) _ _)
  obtain ⟨hv2, hr2⟩ := (hT 2 (by decide) : (Is (.agg #[.int .u64 (((p : Nat) : Int)), .slice pX M.length cX, .int .i64 (((colsM M : Nat) : Int))])) _ _)
  obtain ⟨hv3, hr3⟩ := (hT 3 (by decide) : (Is (.slice pL 1 cL)) _ _)
  obtain ⟨hv4, hr4⟩ := (hT 4 (by decide) : (Is (.pointer (some ⟨gl4, 0, none⟩))) _ _)
  obtain ⟨hv5, hr5⟩ := (hT 5 (by decide) : (Is (.pointer (some ⟨gl4, 2, none⟩))) _ _)
  obtain ⟨hv6, hr6⟩ := (hT 6 (by decide) : (Is (.int .i64 (((colsM M : Nat) : Int)))) _ _)
  simp only [pool, if_true, hr0, hr1, hr2, hr3, hr4, hr5, hr6, List.nil_append, List.cons_append, List.append_nil] at hS
  simp only [layf, hv0, hv1, hv2, hv3, hv4, hv5, hv6] at hf
  subst hf; clear hT hv0 hv1 hv2 hv3 hv4 hv5 hv6 hr0 hr1 hr2 hr3 hr4 hr5 hr6
  refine wlate 7 rfl (by kernel_rfl) (ocall rfl rfl Tryd.call42 rfl (wxreduce ht hp hp2 hS (by rw [hQX]; exact hshM) (by omega) (by omega) (by omega)) (args2 (ev rfl rfl) (ev rfl rfl)) ?_)
  rintro _ w6 ⟨_, _, rfl, ⟨pP, cP, PP, DP, QR, hRR, hDP, rfl, rfl⟩, hN⟩
  refine ⟨_, rfl, ?_⟩
  clear hS; have hS := hN; clear hN
  refine ⟨heldNil, ?_⟩
  refine wlate 8 rfl (by kernel_rfl) (omove (v := .tuple #[.slice pP PP.length cP, .int .u32 (DP : Int)]) rfl rfl (ev rfl rfl) ?_)
  refine ⟨heldNil, ?_⟩
  refine wlate3 9 (vs := [.slice pP PP.length cP, .int .u32 (DP : Int)]) rfl rfl rfl (by kernel_rfl) rfl rfl rfl rfl rfl rfl (by decide) rfl rfl rfl heldNil ?_
  refine wlate 12 rfl (by kernel_rfl) (oassign (v := .int .u32 (DP : Int)) rfl rfl (ev rfl rfl) ?_)
  refine ⟨heldNil, ?_⟩
  refine wdone rfl ?_
  refine thenN (wseq (wreg (wl rfl (omove (v := .slice pP PP.length cP) rfl rfl (ev rfl rfl) ?_))))
  refine wl rfl (olen rfl rfl rfl Tryd.runUnderlying35 (p := pP) (k := PP.length) (m := cP) (ev rfl rfl) ?_)
  refine wl rfl (oassign (v := .int .i64 (PP.length : Int)) rfl rfl (ev rfl rfl) ?_)
  refine wl rfl (oassign (v := .int .i64 0) rfl rfl evc ?_)
  refine wnil (thenN ?_)
  refine wleave ?_
  refine wret2 Tryd.results21 (tellT (v := .int .i64 (PP.length : Int)) rfl rfl) (tellT (v := .int .i64 0) rfl rfl) ?_
  rw [hQX] at hRR
  exact ⟨_, _, rfl, ⟨by rw [rkP, hRR], rfl⟩, hS.new0⟩
end Go.Proofs.YtndilfigdbenoaaDoor
