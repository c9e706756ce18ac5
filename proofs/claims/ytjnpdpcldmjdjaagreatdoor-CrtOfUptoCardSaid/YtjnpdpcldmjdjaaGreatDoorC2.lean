/-
  Contracts and lemmas, joined in one text.
-/
import Derived.Test.YtjnpdpcldmjdjaaGreatDoorCA
import Derived.WalkKit
import Derived.LaidEql
import Derived.Stop.Asserts
import Derived.RowKitTokens
import Derived.Test.YtjnpdpcldmjdjaaGreatDoorCB
set_option linter.unusedVariables false
set_option linter.unusedSimpArgs false
/-
  errors.Is of two of the program's own numbered errors (after the kit's worked proof of errors.Is over sentinels).
-/
set_option maxRecDepth 100000
set_option maxHeartbeats 16000000
namespace Go.Proofs.YtjnpdpcldmjdjaaGreatDoor
open Go.RowKit Go.Extern.Stop Go.Stop Go.Extern
theorem erTypeOf (v:Value) (w:World):(Extern.ReflectliteType.typeOf #[.iface 25 v]).run Tryz.prog w = .ok (.iface 126 (.agg #[.pointer (some ⟨2,25,none⟩)])) w:=by kernel_rfl
def erFn:Array Value → Sem Value:=Extern.ReflectliteType.method fun t => do Go.Extern.Rtype.noPackHeld "Comparable" t; pure (.bool (← typeInfo t).comparable)
theorem erComparable (w:World):(erFn #[.agg #[.pointer (some ⟨2,25,none⟩)]]).run Tryz.prog w = .ok (.bool true) w:=by kernel_rfl
theorem erMethod (v:Value) (w:World):(Go.method 279 126 v "Comparable").run Tryz.prog w = .ok (139,v) w:=by kernel_rfl
theorem erComp:(Tryz.prog.info? 25).map (·.comparable) = some true:=by kernel_rfl
theorem erNoIs (v:Value) (xT:TypeId) (w:World):(Instr.typeAssert (.iface 25 v) xT 128 true).run Tryz.prog w = .ok (.tuple #[.nilIface,.bool false]) w:=run_typeAssert_lacksB Tryz.underlying128 (by kernel_rfl) (by kernel_rfl) v xT w
theorem erNoUnwrap (v:Value) (xT:TypeId) (w:World):(Instr.typeAssert (.iface 25 v) xT 131 true).run Tryz.prog w = .ok (.tuple #[.nilIface,.bool false]) w:=run_typeAssert_lacksB Tryz.underlying131 (by kernel_rfl) (by kernel_rfl) v xT w
theorem erNoUnwraps (v:Value) (xT:TypeId) (w:World):(Instr.typeAssert (.iface 25 v) xT 133 true).run Tryz.prog w = .ok (.tuple #[.nilIface,.bool false]) w:=run_typeAssert_lacksB Tryz.underlying133 (by kernel_rfl) (by kernel_rfl) v xT w
theorem erEql {a b:Int} (w:World):(binOp .eql 51 (.iface 25 (.int .i64 a)) (.iface 25 (.int .i64 b))).run Tryz.prog w = .ok (.bool (a == b)) w:=by
 obtain ⟨i,hi,hcmp⟩:=Option.map_eq_some_iff.1 erComp
 have h:∀ d:Nat,(Op.equalIn (d + 2) 51 (.iface 25 (.int .i64 a)) (.iface 25 (.int .i64 b))).run Tryz.prog w = .ok (a == b) w:=fun d => by
  simp [Op.equalIn,run_underlying Tryz.underlying51,run_underlying Tryz.underlying25,typeInfo,hi,hcmp]
 simp only [binOp]
 simp [Op.equal,Op.maxDepth,h 9998]
set_option maxRecDepth 100000 in
set_option maxHeartbeats 4000000 in
theorem er_same (a:Int) (w:World) :
  Calls Tryz.prog 41 #[.iface 25 (.int .i64 a),.iface 25 (.int .i64 a)] w fun e w' => e = .returned (.bool true) ∧ w = w':=by
 have h8:=@run_callFunc_extern Tryz.prog 73 _ Extern.ReflectliteType.typeOf Tryz.func73 (by kernel_rfl) (by kernel_rfl) (by kernel_rfl) (by kernel_rfl)
 have h32:=@run_callFunc_extern Tryz.prog 139 _ erFn Tryz.func139 (by kernel_rfl) (by kernel_rfl) (by kernel_rfl) (by kernel_rfl)
 have tT:=erTypeOf
 have cT:=erComparable
 have mR:=erMethod
 have heq:(binOp .eql 51 (.iface 25 (.int .i64 a)) (.iface 25 (.int .i64 a))).run Tryz.prog w = .ok (.bool true) w:=(erEql w).trans (by simp)
 go_enter Tryz.func41,Tryz.ntmps41
 go_wp2
 refine wp_loop_rounds 1 ?_
 rw [rounds_succ]
 go_wp2
 go_ret
 exact ⟨rfl,rfl⟩
set_option maxRecDepth 100000 in
set_option maxHeartbeats 4000000 in
theorem er_other {a b:Int} (hne:a ≠ b) (w:World) :
  Calls Tryz.prog 41 #[.iface 25 (.int .i64 a),.iface 25 (.int .i64 b)] w fun e w' => e = .returned (.bool false) ∧ w = w':=by
 have h8:=@run_callFunc_extern Tryz.prog 73 _ Extern.ReflectliteType.typeOf Tryz.func73 (by kernel_rfl) (by kernel_rfl) (by kernel_rfl) (by kernel_rfl)
 have h32:=@run_callFunc_extern Tryz.prog 139 _ erFn Tryz.func139 (by kernel_rfl) (by kernel_rfl) (by kernel_rfl) (by kernel_rfl)
 have tT:=erTypeOf
 have cT:=erComparable
 have mR:=erMethod
 have nE:=erNoIs
 have uE:=erNoUnwrap
 have vE:=erNoUnwraps
 have heq:(binOp .eql 51 (.iface 25 (.int .i64 a)) (.iface 25 (.int .i64 b))).run Tryz.prog w = .ok (.bool false) w:=(erEql w).trans (by simp [hne])
 go_enter Tryz.func41,Tryz.ntmps41
 go_wp2
 refine wp_loop_rounds 1 ?_
 rw [rounds_succ]
 go_wp2
 go_ret
 exact ⟨rfl,rfl⟩
open Go.RowKit
theorem Sep.new {S:List Res} {w w':World} (h:Sep w S w') (ha:S.all (fun r => !r.arg) = true):New w S w' :=
  ⟨h.below,h.holds,fun r hr g hg => h.low r hr (by have:=List.all_eq_true.1 ha r hr; simpa using this) g hg,h.apart⟩
theorem box_heap {w w':World} {R:List Res} (hS:Sep w R w') {g:Nat} {b:Obj} (h:w.heap[g]? = some b):w'.heap[g]? = some b :=
  (hS.below.block _ (Array.getElem?_eq_some_iff.1 h).1).trans h
def AllT (L:List (Nat × Nat)):Tell:=fun v r => ∃ g s,v = .tuple #[.pointer (some ⟨g,0,none⟩),.nilIface] ∧ r = [.pack (crtR g s L)]
def NNEt (x y:Nat) (e:Int):Tell:=fun v r => ∃ p n c q m d,v = .tuple #[.slice p n c,.slice q m d,.int .i64 e] ∧ r = [.rowm p n c (lim x),.rowm q m d (lim y)]
def Nx (x k:Nat):Tell:=fun v r => ∃ p n c xs,v = .slice p n c ∧ r = [.rowm p n c xs] ∧ val xs = x ∧ n ≤ k
def DGt (L:List (Nat × Nat)):Tell:=fun v r => ∃ p c,v = .tuple #[.slice p L.length c,.int .i64 0] ∧ r = [.lst 38 1 p L.length c (dgE (dgs L))]
theorem wcloneR {p:Option Addr} {n c:Nat} {L:List (Nat × Nat)} {w:World} (h:RS w p n L) (hc:p = none → c = 0) (hn:n ≤ 4294967296):Calls Tryz.prog 23 #[.slice p n c] w (Ret (LRt L) w):=by
 rcases p with _ | a
 ·obtain rfl:c = 0:=hc rfl
  obtain rfl:n = 0:=h.2.1 rfl
  obtain rfl:L = []:=List.eq_nil_of_length_eq_zero h.1
  exact wcloneR0
 exact wcloneR1 h hn
theorem wcvalue {g:Nat} {s:Gh} {l:List (Nat × Nat)} {w:World} (hP:(Res.pack (crtR g s l)).holds w) (hl:Okl l) :
  Calls Tryz.prog 26 #[.pointer (some ⟨g,0,none⟩)] w (Ret (Nw (lim (cv l).1)) w):=by
 obtain ⟨pV,nV,cV,pM,nM,cM,pP,cP,pD,cD,gm⟩:=s
 have hwV:=hl.wV
 have hwM:=hl.wM
 have hlen:=hl.len
 have hb:=(show w.heap[g]? = some (.cells [.slice pV nV cV,.slice pM nM cM,.slice pP l.length cP,.slice pD l.length cD,.map (some gm)].toArray 58) from hP.1 _ List.mem_cons_self)
 have hV:Nr w pV nV cV (cv l).1 1048577:=(show Fr 0 w pV nV cV (lim (cv l).1) from hP.1 (.rowm pV nV cV (lim (cv l).1)) (by simp [crtR])).sl.nr hwV
 have hM:Nr w pM nM cM (cv l).2 1048577:=(show Fr 0 w pM nM cM (lim (cv l).2) from hP.1 (.rowm pM nM cM (lim (cv l).2)) (by simp [crtR])).sl.nr hwM
 have hF:Sl w pV nV cV (lim (cv l).1):=(show Fr 0 w pV nV cV (lim (cv l).1) from hP.1 (.rowm pV nV cV (lim (cv l).1)) (by simp [crtR])).sl
 have hnn:nV ≤ 4294967296:=by rw [hF.lln]; omega
 have hS:=Sep.init w
 refine went Tryz.func26 rfl (n:=11) rfl rfl ?_
 refine wsr (wavc ?_)
 refine wn1 (wSq (wsr (wmv rfl rfl ?_)))
 refine wcl Tryz.call47 (wcis (box_heap hS hb)) (ar1 (ev rfl rfl)) hS ?_
 clear hS; rintro _ _ w1 ⟨rfl,rfl⟩ hS
 refine wl rfl (onot rfl rfl (ev rfl rfl) ?_)
 refine wn1 ?_
 refine wF (ev rfl rfl) ?_
 refine wSk (tNo (wsr (wmv rfl rfl ?_)))
 refine wl rfl (oNC (a:=⟨g,0,none⟩) rfl rfl (ev rfl rfl) ?_)
 refine wl rfl (oFA (g:=g) (off:=0) (0 + 0) rfl rfl (ev rfl rfl) Tryz.runUnderlying58 rfl Tryz.sizeOf24 rfl ?_)
 refine wl rfl (oLc oneN rfl rfl (ev rfl rfl) (hS.cellAt ((cell_sub (us:=[.slice pV nV cV]) (box_cells hb) 0 rfl) 0 _ rfl)) ?_)
 refine wcl Tryz.call48 (wclone (hF.below hS.below (Nat.le_refl _)) hnn) (ar1 (ev rfl rfl)) hS ?_
 clear hS; rintro _ _ w2 ⟨pR,nR,cR,rfl,rfl⟩ hS
 refine wav rfl rfl ?_
 refine wn1 ?_
 refine wLv ?_
 refine wr1 Tryz.results26 (tlT (v:=.slice pR nR cR) rfl rfl) ?_
 exact ⟨_,_,rfl,⟨_,_,_,rfl,rfl⟩,hS.newR 0 rfl rfl⟩
theorem wcmod {g:Nat} {s:Gh} {l:List (Nat × Nat)} {w:World} (hP:(Res.pack (crtR g s l)).holds w) (hl:Okl l) :
  Calls Tryz.prog 27 #[.pointer (some ⟨g,0,none⟩)] w (Ret (Nw (lim (cv l).2)) w):=by
 obtain ⟨pV,nV,cV,pM,nM,cM,pP,cP,pD,cD,gm⟩:=s
 have hwV:=hl.wV
 have hwM:=hl.wM
 have hlen:=hl.len
 have hb:=(show w.heap[g]? = some (.cells [.slice pV nV cV,.slice pM nM cM,.slice pP l.length cP,.slice pD l.length cD,.map (some gm)].toArray 58) from hP.1 _ List.mem_cons_self)
 have hV:Nr w pV nV cV (cv l).1 1048577:=(show Fr 0 w pV nV cV (lim (cv l).1) from hP.1 (.rowm pV nV cV (lim (cv l).1)) (by simp [crtR])).sl.nr hwV
 have hM:Nr w pM nM cM (cv l).2 1048577:=(show Fr 0 w pM nM cM (lim (cv l).2) from hP.1 (.rowm pM nM cM (lim (cv l).2)) (by simp [crtR])).sl.nr hwM
 have hF:Sl w pM nM cM (lim (cv l).2):=(show Fr 0 w pM nM cM (lim (cv l).2) from hP.1 (.rowm pM nM cM (lim (cv l).2)) (by simp [crtR])).sl
 have hnn:nM ≤ 4294967296:=by rw [hF.lln]; omega
 have hS:=Sep.init w
 refine went Tryz.func27 rfl (n:=11) rfl rfl ?_
 refine wsr (wavc ?_)
 refine wn1 (wSq (wsr (wmv rfl rfl ?_)))
 refine wcl Tryz.call47 (wcis (box_heap hS hb)) (ar1 (ev rfl rfl)) hS ?_
 clear hS; rintro _ _ w1 ⟨rfl,rfl⟩ hS
 refine wl rfl (onot rfl rfl (ev rfl rfl) ?_)
 refine wn1 ?_
 refine wF (ev rfl rfl) ?_
 refine wSk (tNo (wsr (wmv rfl rfl ?_)))
 refine wl rfl (oNC (a:=⟨g,0,none⟩) rfl rfl (ev rfl rfl) ?_)
 refine wl rfl (oFA (g:=g) (off:=0) (0 + 1) rfl rfl (ev rfl rfl) Tryz.runUnderlying58 rfl Tryz.sizeOf24 rfl ?_)
 refine wl rfl (oLc oneN rfl rfl (ev rfl rfl) (hS.cellAt ((cell_sub (us:=[.slice pM nM cM]) (box_cells hb) 1 rfl) 0 _ rfl)) ?_)
 refine wcl Tryz.call48 (wclone (hF.below hS.below (Nat.le_refl _)) hnn) (ar1 (ev rfl rfl)) hS ?_
 clear hS; rintro _ _ w2 ⟨pR,nR,cR,rfl,rfl⟩ hS
 refine wav rfl rfl ?_
 refine wn1 ?_
 refine wLv ?_
 refine wr1 Tryz.results27 (tlT (v:=.slice pR nR cR) rfl rfl) ?_
 exact ⟨_,_,rfl,⟨_,_,_,rfl,rfl⟩,hS.newR 0 rfl rfl⟩
theorem wcon {v:Value} {w:World} :
  Calls Tryz.prog 16 #[v] w (Ret (Is (.bool true)) w):=by
 have hS:=Sep.init w
 refine went Tryz.func16 rfl (n:=3) rfl rfl ?_
 refine wsr (wavc ?_)
 refine wn2 (wavc ?_)
 refine wn1 ?_
 refine wLv ?_
 refine wr1 Tryz.results16 (tlT (v:=.bool true) rfl rfl) ?_
 exact ⟨_,_,rfl,isI,hS.new0⟩
theorem wcerrno60 {w:World} :
  Calls Tryz.prog 17 #[.iface 25 (.int .i64 60)] w (Ret (Is (.int .i64 60)) w):=by
 have hS:=Sep.init w
 refine went Tryz.func17 rfl (n:=6) rfl rfl ?_
 refine wsr (wavc ?_)
 refine wn1 (wSq (wsr (wmv rfl rfl ?_)))
 refine wl rfl (omakeIface rfl rfl Tryz.underlying25 (fun _ h => by cases h) (evc (v:=.int .i64 60)) ?_)
 refine wcl Tryz.call41 ((er_same 60 _).mono same_u) (ar2 (ev rfl rfl) (ev rfl rfl)) hS ?_
 clear hS; rintro _ _ w1 ⟨rfl,rfl⟩ hS
 refine wn1 ?_
 refine wT (ev rfl rfl) ?_
 refine wsr (wavc ?_)
 refine wn1 ?_
 refine wLv ?_
 refine thenR ?_
 refine wr1 Tryz.results17 (tlT (v:=.int .i64 60) rfl rfl) ?_
 exact ⟨_,_,rfl,isI,hS.new0⟩
theorem wcerrno40 {w:World} :
  Calls Tryz.prog 17 #[.iface 25 (.int .i64 40)] w (Ret (Is (.int .i64 40)) w):=by
 have hS:=Sep.init w
 refine went Tryz.func17 rfl (n:=6) rfl rfl ?_
 refine wsr (wavc ?_)
 refine wn1 (wSq (wsr (wmv rfl rfl ?_)))
 refine wl rfl (omakeIface rfl rfl Tryz.underlying25 (fun _ h => by cases h) (evc (v:=.int .i64 60)) ?_)
 refine wcl Tryz.call41 ((er_other (by decide) _).mono same_u) (ar2 (ev rfl rfl) (ev rfl rfl)) hS ?_
 clear hS; rintro _ _ w1 ⟨rfl,rfl⟩ hS
 refine wn1 ?_
 refine wF (ev rfl rfl) ?_
 refine wSk (tNo (wsr (wavc ?_)))
 refine wn1 ?_
 refine wLv ?_
 refine wr1 Tryz.results17 (tlT (v:=.int .i64 40) rfl rfl) ?_
 exact ⟨_,_,rfl,isI,hS.new0⟩
theorem take_next {α : Type} {L:List α} {i:Nat} {x : α} (h:L[i]? = some x):L.take (i + 1) = L.take i ++ [x]:=by
  rw [List.take_add_one,h]; rfl
theorem Gd.take {l:List (Nat × Nat)} (h:Gd l) (i:Nat):Gd (l.take i) :=
  ⟨fun x hx => h.1 x (List.mem_of_mem_take hx),(List.Sublist.map _ (List.take_sublist i l)).nodup h.2⟩
theorem gd_at {l:List (Nat × Nat)} (h:Gd l) {i:Nat} {x:Nat × Nat} (hx:l[i]? = some x):MR.Pr x.2 ∧ x.2 ∉ mods (l.take i):=by
  have h1:=h.take (i + 1)
  rw [take_next hx] at h1
  exact (Gd.snoc.1 h1).2
theorem wcall0 {p:Option Addr} {n c:Nat} {L:List (Nat × Nat)} {w:World} (ht:Tb w) (hL:RS w p n L) (h32:∀ x ∈ L,x.1 < 4294967296 ∧ x.2 < 4294967296) (hlen:L.length ≤ 1048576) (hgd:Gd L) :
  Calls Tryz.prog 15 #[.slice p n c,.func (.func 16) #[] #[]] w (Ret (AllT L) w):=by
 have hS:=Sep.init w
 refine went Tryz.func15 rfl (n:=33) rfl rfl ?_
 refine wsr (wavc ?_)
 refine wavc ?_
 refine wn2 (wcl Tryz.call39 (wcnew) (args0 ) hS ?_)
 clear hS; rintro _ _ w1 ⟨g1,s1,rfl,rfl⟩ hS
 refine wav rfl rfl ?_
 refine wn1 (wSq (wsr (wmv rfl rfl ?_)))
 refine wl rfl (olen rfl rfl rfl Tryz.runUnderlying22 (p:=p) (k:=n) (m:=c) (ev rfl rfl) ?_)
 refine wmvc ?_
 refine wn1 (wBk ?_)
 refine wLp (σ := Nat) (fun i a9 w' => ∃ (fb:Nat → Value) (sg:Gh),a9 = act 33 (sets fb [(1,.func (.func 16) #[] #[]),(6,.pointer (some ⟨g1,0,none⟩)),(11,.slice p n c),(12,.int .i64 (n:Int)),(13,.int .i64 (i:Int))]) ∧ Sep w [.pack (crtR g1 sg (L.take i))] w' ∧ (i ≤ n) ∧ (Okl (L.take i))) (fun i => n - i) (0) ⟨_,s1,aSs ⟨rfl,rfl,rfl,rfl,rfl,trivial⟩,hS,Nat.zero_le _,(by rw [List.take_zero]; exact Okl.nil)⟩ ?_
 clear hS; rintro i _ w2 ⟨fb,sg,rfl,hS,hi,hg⟩
 refine wsr ?_
 by_cases hlt:i < n
 ·
  obtain ⟨x,hx⟩:∃ x,L[i]? = some x:=⟨_,List.getElem?_eq_getElem (by have:=hL.1; omega)⟩
  obtain ⟨b,off,hpx,hcx⟩:=hL.2.2 i x hx
  have hx32:=h32 x (List.mem_of_getElem? hx)
  have hn1:=hL.1
  refine wbt rfl rfl rfl rfl (bLs (decide_eq_true (by omega))) ?_
  refine wn1 (wSq ?_)
  refine wT (ev rfl rfl) ?_
  refine wk2 (wl rfl (oIx (p:=p) (g:=b) (off:=off) (m:=n) (k:=i) (j:=(off + i * 2)) rfl rfl Tryz.runUnderlying22 Tryz.sizeOf45 (ev rfl rfl) hpx (ev rfl rfl) hlt rfl ?_))
  refine wl rfl (oloadA ⟨Tryz.isAgg45,Tryz.sizeOf45⟩ rfl rfl (ev rfl rfl) (fun j v hj => hS.cellAt (hcx j v hj)) rfl ?_)
  refine wl rfl (oAl [.int .u32 0,.int .u32 0] hS rfl rfl Tryz.zeroValue45 rfl ?_)
  clear hS; intro g3 w4 hS
  refine wl rfl (oSt _ _ Tryz.sizeOf45 hS 0 rfl rfl (ev rfl rfl) (ev rfl rfl) rfl rfl rfl rfl rfl rfl ?_)
  clear hS; intro w5 hS
  refine wn1 (wSq (wsr (wmv rfl rfl ?_)))
  refine wl rfl (oFA (g:=g3) (off:=0) 0 rfl rfl (ev rfl rfl) Tryz.runUnderlying45 rfl Tryz.sizeOf38 rfl ?_)
  refine wl rfl (oL1 one32 hS 0 rfl rfl (ev rfl rfl) rfl rfl ?_)
  refine wl rfl (oFA (g:=g3) (off:=0) 1 rfl rfl (ev rfl rfl) Tryz.runUnderlying45 rfl Tryz.sizeOf38 rfl ?_)
  refine wl rfl (oL1 one32 hS 0 rfl rfl (ev rfl rfl) rfl rfl ?_)
  obtain ⟨hp,hm⟩:=gd_at hgd hx
  obtain hS:=(show Sep w [.pack (crtR g1 sg (L.take i)),.blk g3 [.int .u32 (((x.1:Nat):Int)),.int .u32 (((x.2:Nat):Int))] 45] w5 from hS.pick [1,0] (by decide) rfl)
  refine wl rfl (oCl rfl rfl Tryz.call40 rfl (wcadd ht hg (by rw [List.length_take]; omega) hx32.1 hx32.2 hS hp hm) (args3 (ev rfl rfl) (ev rfl rfl) (ev rfl rfl)) ?_)
  rintro _ w6 ⟨_,_,rfl,⟨s2,rfl,rfl⟩,hN⟩
  refine ⟨_,rfl,?_⟩
  clear hS; have hS:=hN; clear hN
  refine wav rfl rfl ?_
  refine wn2 (wmv rfl rfl ?_)
  refine wbc (u:=.int .i64 0) (v:=.int .i64 0) (z:=.bool false) rfl rfl (bNe (by decide)) ?_
  refine wn1 ?_
  refine wF (ev rfl rfl) ?_
  refine wSk (tNo (wsr (wmv rfl rfl ?_)))
  refine wmv rfl rfl ?_
  refine wl rfl (ocallv rfl rfl (ev rfl rfl) Tryz.call16 rfl (wcon) (ar1 (ev rfl rfl)) ?_)
  rintro _ w7 ⟨_,_,rfl,⟨rfl,rfl⟩,hN⟩
  refine ⟨_,rfl,?_⟩
  replace hS:=hS.news hN; clear hN
  refine wl rfl (onot rfl rfl (ev rfl rfl) ?_)
  refine wn1 ?_
  refine wF (ev rfl rfl) ?_
  refine wSk (blkN (tNo (wreg (wbc (z:=.int .i64 ((i + 1:Nat):Int)) rfl rfl (bAd (wI6 (by omega) (by omega))) ?_))))
  refine wmv rfl rfl ?_
  refine wn1 ?_
  rw [show L.take i ++ [(x.1,x.2)] = L.take (i + 1) from (take_next hx).symm] at hS
  exact ⟨(i + 1),⟨_,_,aSs ⟨rfl,rfl,rfl,rfl,rfl,trivial⟩,hS.pick [0] (by decide) rfl,by omega,(take_next hx) ▸ hg.snoc hp hx32.2 hm (by rw [List.length_take]; omega)⟩,by omega⟩
 refine wbt rfl rfl rfl rfl (bLs (decide_eq_false (by omega))) ?_
 refine wn1 (wSq ?_)
 refine wF (ev rfl rfl) ?_
 refine wEx ?_
 refine tEx ?_
 refine tEx ?_
 refine blkE ?_
 refine tNo (wsr (wmv rfl rfl ?_))
 refine wav rfl rfl ?_
 refine wavc ?_
 refine wn1 ?_
 refine wLv ?_
 have hLt:L.take i = L:=List.take_of_length_le (by have:=hL.1; omega)
 rw [hLt] at hS
 refine wret2 Tryz.results15 (tlT (v:=.pointer (some ⟨g1,0,none⟩)) rfl rfl) (tlT (v:=.nilIface) rfl rfl) ?_
 exact ⟨_,_,rfl,⟨_,_,rfl,rfl⟩,hS.newR 0 rfl rfl⟩
theorem wcallE {p:Option Addr} {n c:Nat} {L:List (Nat × Nat)} {w:World} (ht:Tb w) (hL:RS w p n L) (h32:∀ x ∈ L,x.1 < 4294967296 ∧ x.2 < 4294967296) (hlen:L.length ≤ 1048576) (hne:code [] L ≠ 0) :
  Calls Tryz.prog 15 #[.slice p n c,.func (.func 16) #[] #[]] w (Ret (Is (.tuple #[.pointer none,.iface 25 (.int .i64 ((code [] L:Nat):Int))])) w):=by
 have hS:=Sep.init w
 refine went Tryz.func15 rfl (n:=33) rfl rfl ?_
 refine wsr (wavc ?_)
 refine wavc ?_
 refine wn2 (wcl Tryz.call39 (wcnew) (args0 ) hS ?_)
 clear hS; rintro _ _ w1 ⟨g1,s1,rfl,rfl⟩ hS
 refine wav rfl rfl ?_
 refine wn1 (wSq (wsr (wmv rfl rfl ?_)))
 refine wl rfl (olen rfl rfl rfl Tryz.runUnderlying22 (p:=p) (k:=n) (m:=c) (ev rfl rfl) ?_)
 refine wmvc ?_
 refine wn1 (wBk ?_)
 refine wLp (σ := Nat) (fun i a9 w' => ∃ (fb:Nat → Value) (sg:Gh),a9 = act 33 (sets fb [(1,.func (.func 16) #[] #[]),(6,.pointer (some ⟨g1,0,none⟩)),(11,.slice p n c),(12,.int .i64 (n:Int)),(13,.int .i64 (i:Int))]) ∧ Sep w [.pack (crtR g1 sg (L.take i))] w' ∧ (i ≤ n) ∧ (Okl (L.take i))) (fun i => n - i) (0) ⟨_,s1,aSs ⟨rfl,rfl,rfl,rfl,rfl,trivial⟩,hS,Nat.zero_le _,(by rw [List.take_zero]; exact Okl.nil)⟩ ?_
 clear hS; rintro i _ w2 ⟨fb,sg,rfl,hS,hi,hg⟩
 refine wsr ?_
 by_cases hlt:i < n
 ·
  obtain ⟨x,hx⟩:∃ x,L[i]? = some x:=⟨_,List.getElem?_eq_getElem (by have:=hL.1; omega)⟩
  obtain ⟨b,off,hpx,hcx⟩:=hL.2.2 i x hx
  have hx32:=h32 x (List.mem_of_getElem? hx)
  have hn1:=hL.1
  refine wbt rfl rfl rfl rfl (bLs (decide_eq_true (by omega))) ?_
  refine wn1 (wSq ?_)
  refine wT (ev rfl rfl) ?_
  refine wk2 (wl rfl (oIx (p:=p) (g:=b) (off:=off) (m:=n) (k:=i) (j:=(off + i * 2)) rfl rfl Tryz.runUnderlying22 Tryz.sizeOf45 (ev rfl rfl) hpx (ev rfl rfl) hlt rfl ?_))
  refine wl rfl (oloadA ⟨Tryz.isAgg45,Tryz.sizeOf45⟩ rfl rfl (ev rfl rfl) (fun j v hj => hS.cellAt (hcx j v hj)) rfl ?_)
  refine wl rfl (oAl [.int .u32 0,.int .u32 0] hS rfl rfl Tryz.zeroValue45 rfl ?_)
  clear hS; intro g3 w4 hS
  refine wl rfl (oSt _ _ Tryz.sizeOf45 hS 0 rfl rfl (ev rfl rfl) (ev rfl rfl) rfl rfl rfl rfl rfl rfl ?_)
  clear hS; intro w5 hS
  refine wn1 (wSq (wsr (wmv rfl rfl ?_)))
  refine wl rfl (oFA (g:=g3) (off:=0) 0 rfl rfl (ev rfl rfl) Tryz.runUnderlying45 rfl Tryz.sizeOf38 rfl ?_)
  refine wl rfl (oL1 one32 hS 0 rfl rfl (ev rfl rfl) rfl rfl ?_)
  refine wl rfl (oFA (g:=g3) (off:=0) 1 rfl rfl (ev rfl rfl) Tryz.runUnderlying45 rfl Tryz.sizeOf38 rfl ?_)
  refine wl rfl (oL1 one32 hS 0 rfl rfl (ev rfl rfl) rfl rfl ?_)
  by_cases hp:MR.Pr x.2
  ·
   by_cases hm:x.2 ∈ mods (L.take i)
   ·
    obtain hS:=(show Sep w [.pack (crtR g1 sg (L.take i)),.blk g3 [.int .u32 (((x.1:Nat):Int)),.int .u32 (((x.2:Nat):Int))] 45] w5 from hS.pick [1,0] (by decide) rfl)
    refine wl rfl (oCl rfl rfl Tryz.call40 rfl (wcadd60 ht hg (by rw [List.length_take]; omega) hx32.1 hx32.2 hS hp hm) (args3 (ev rfl rfl) (ev rfl rfl) (ev rfl rfl)) ?_)
    rintro _ w6 ⟨_,_,rfl,⟨s2,rfl,rfl⟩,hN⟩
    refine ⟨_,rfl,?_⟩
    clear hS; have hS:=hN; clear hN
    refine wav rfl rfl ?_
    refine wn2 (wmv rfl rfl ?_)
    refine wbc (u:=.int .i64 60) (v:=.int .i64 0) (z:=.bool true) rfl rfl (bNe (by decide)) ?_
    refine wn1 ?_
    refine wT (ev rfl rfl) ?_
    refine wsr (wmv rfl rfl ?_)
    refine wl rfl (omakeIface rfl rfl Tryz.underlying25 (fun _ h => by cases h) (ev rfl rfl) ?_)
    refine wavc ?_
    refine wav rfl rfl ?_
    refine wn1 ?_
    refine wLv ?_
    refine thenR ?_
    refine blkR ?_
    refine thenR ?_
    refine thenR ?_
    refine blkR ?_
    refine thenR ?_
    have hcode:code [] L = 60:=(code_bad hx hg.gd (by rw [eno_in hp hm]; decide)).trans (eno_in hp hm)
    refine wret2 Tryz.results15 (tlT (v:=.pointer none) rfl rfl) (tlT (v:=.iface 25 (.int .i64 60)) rfl rfl) ?_
    exact ⟨_,_,rfl,⟨by rw [hcode]; rfl,rfl⟩,hS.new0⟩
   obtain hS:=(show Sep w [.pack (crtR g1 sg (L.take i)),.blk g3 [.int .u32 (((x.1:Nat):Int)),.int .u32 (((x.2:Nat):Int))] 45] w5 from hS.pick [1,0] (by decide) rfl)
   refine wl rfl (oCl rfl rfl Tryz.call40 rfl (wcadd ht hg (by rw [List.length_take]; omega) hx32.1 hx32.2 hS hp hm) (args3 (ev rfl rfl) (ev rfl rfl) (ev rfl rfl)) ?_)
   rintro _ w6 ⟨_,_,rfl,⟨s2,rfl,rfl⟩,hN⟩
   refine ⟨_,rfl,?_⟩
   clear hS; have hS:=hN; clear hN
   refine wav rfl rfl ?_
   refine wn2 (wmv rfl rfl ?_)
   refine wbc (u:=.int .i64 0) (v:=.int .i64 0) (z:=.bool false) rfl rfl (bNe (by decide)) ?_
   refine wn1 ?_
   refine wF (ev rfl rfl) ?_
   refine wSk (tNo (wsr (wmv rfl rfl ?_)))
   refine wmv rfl rfl ?_
   refine wl rfl (ocallv rfl rfl (ev rfl rfl) Tryz.call16 rfl (wcon) (ar1 (ev rfl rfl)) ?_)
   rintro _ w7 ⟨_,_,rfl,⟨rfl,rfl⟩,hN⟩
   refine ⟨_,rfl,?_⟩
   replace hS:=hS.news hN; clear hN
   refine wl rfl (onot rfl rfl (ev rfl rfl) ?_)
   refine wn1 ?_
   refine wF (ev rfl rfl) ?_
   refine wSk (blkN (tNo (wreg (wbc (z:=.int .i64 ((i + 1:Nat):Int)) rfl rfl (bAd (wI6 (by omega) (by omega))) ?_))))
   refine wmv rfl rfl ?_
   refine wn1 ?_
   rw [show L.take i ++ [(x.1,x.2)] = L.take (i + 1) from (take_next hx).symm] at hS
   exact ⟨(i + 1),⟨_,_,aSs ⟨rfl,rfl,rfl,rfl,rfl,trivial⟩,hS.pick [0] (by decide) rfl,by omega,(take_next hx) ▸ hg.snoc hp hx32.2 hm (by rw [List.length_take]; omega)⟩,by omega⟩
  obtain hS:=(show Sep w [.pack (crtR g1 sg (L.take i)),.blk g3 [.int .u32 (((x.1:Nat):Int)),.int .u32 (((x.2:Nat):Int))] 45] w5 from hS.pick [1,0] (by decide) rfl)
  refine wl rfl (oCl rfl rfl Tryz.call40 rfl (wcadd40 ht hg (by rw [List.length_take]; omega) hx32.1 hx32.2 hS hp) (args3 (ev rfl rfl) (ev rfl rfl) (ev rfl rfl)) ?_)
  rintro _ w6 ⟨_,_,rfl,⟨s2,rfl,rfl⟩,hN⟩
  refine ⟨_,rfl,?_⟩
  clear hS; have hS:=hN; clear hN
  refine wav rfl rfl ?_
  refine wn2 (wmv rfl rfl ?_)
  refine wbc (u:=.int .i64 40) (v:=.int .i64 0) (z:=.bool true) rfl rfl (bNe (by decide)) ?_
  refine wn1 ?_
  refine wT (ev rfl rfl) ?_
  refine wsr (wmv rfl rfl ?_)
  refine wl rfl (omakeIface rfl rfl Tryz.underlying25 (fun _ h => by cases h) (ev rfl rfl) ?_)
  refine wavc ?_
  refine wav rfl rfl ?_
  refine wn1 ?_
  refine wLv ?_
  refine thenR ?_
  refine blkR ?_
  refine thenR ?_
  refine thenR ?_
  refine blkR ?_
  refine thenR ?_
  have hcode:code [] L = 40:=(code_bad hx hg.gd (by rw [eno_np hp]; decide)).trans (eno_np hp)
  refine wret2 Tryz.results15 (tlT (v:=.pointer none) rfl rfl) (tlT (v:=.iface 25 (.int .i64 40)) rfl rfl) ?_
  exact ⟨_,_,rfl,⟨by rw [hcode]; rfl,rfl⟩,hS.new0⟩
 refine wbt rfl rfl rfl rfl (bLs (decide_eq_false (by omega))) ?_
 refine wn1 (wSq ?_)
 refine wF (ev rfl rfl) ?_
 refine wEx ?_
 refine tEx ?_
 refine tEx ?_
 refine blkE ?_
 refine tNo (wsr (wmv rfl rfl ?_))
 refine wav rfl rfl ?_
 refine wavc ?_
 refine wn1 ?_
 refine wLv ?_
 have hLt:L.take i = L:=List.take_of_length_le (by have:=hL.1; omega)
 exact absurd (code_gd.2 (hLt ▸ hg.gd)) hne
open Go.RowKit
theorem okl_of {L:List (Nat × Nat)} (h32:∀ x ∈ L,x.1 < 4294967296 ∧ x.2 < 4294967296) (hlen:L.length ≤ 1048576) (hgd:Gd L):Okl L:=⟨hgd,fun x hx => (h32 x hx).2,hlen⟩
theorem code_cases:∀ {l:List (Nat × Nat)} {seen:List Nat},code seen l = 0 ∨ code seen l = 60 ∨ code seen l = 40
 | [],_ => .inl rfl
 | x :: l,seen => by
  unfold code
  by_cases h1:MR.Pr x.2
  ·by_cases h2:x.2 ∈ seen
   ·simp [eno_in h1 h2]
   have:=@code_cases l (seen ++ [x.2])
   simp only [eno_ok h1 h2]
   simpa using this
  simp [eno_np h1]
theorem wcerrno {e:Nat} {w:World} (h:e = 60 ∨ e = 40):Calls Tryz.prog 17 #[.iface 25 (.int .i64 ((e:Nat):Int))] w (Ret (Is (.int .i64 ((e:Nat):Int))) w):=by
  rcases h with rfl | rfl
  · exact wcerrno60
  exact wcerrno40
def RWt (x y:Int) (e:Int):Tell:=fun v r => ∃ p n c q m d,v = .tuple #[.agg #[.bool (ng x),.slice p n c,.bool (ng y),.slice q m d],.int .i64 e] ∧ r = [.row p n c (lim x.natAbs),.row q m d (lim y.natAbs)]
def RcT (v m b:Nat):Tell:=fun u r => (rce v m b = 0 ∧ RWt (rcx v m b) (rcy v m b) 0 u r) ∨ (rce v m b ≠ 0 ∧ Is (.tuple #[.agg #[.bool false,.slice none 0 0,.bool false,.slice none 0 0],.int .i64 ((rce v m b:Nat):Int)]) u r)
theorem cmpZ_gtT {a b s:Int} (h:Hid (cmpZ a b = s)) (hab:b < a):decide (0 < s) = true:=by
  rw [← h.out,cmpZ_sign,Int.sign_eq_one_of_pos (by omega)]; rfl
theorem cmpZ_gtF {a b s:Int} (h:Hid (cmpZ a b = s)) (hab:a ≤ b):decide (0 < s) = false:=by
  refine decide_eq_false ?_
  rw [← h.out,cmpZ_sign]
  have:=sign_cases (a - b)
  omega
theorem cmpZ_neF {a b s:Int} (h:Hid (cmpZ a b = s)) (hab:a = b):(s != 0) = false:=by
  have h1:=sign_cases (a - b)
  have h2:=h.out
  rw [cmpZ_sign] at h2
  exact neF (by omega)
theorem rce_1 {v m b:Nat} (h:¬ (v < m ∧ b * b + b * b < m)):rce v m b = 1:=if_neg h
theorem rce_61 {v m b:Nat} {N D:Int} (hv:v < m) (hb:b * b + b * b < m) (hN:sfix (rcs v m b) = (N,D)) (h:D = 0 ∨ (b:Int) < D ∨ Int.gcd N D ≠ 1 ∨ Int.gcd D m ≠ 1):rce v m b = 61:=by
  unfold rce
  rw [if_pos ⟨hv,hb⟩,hN,if_neg]
  intro hok
  simp only [rcOk,Bool.and_eq_true,decide_eq_true_eq] at hok
  obtain ⟨⟨⟨h1,h2⟩,h3⟩,h4⟩:=hok
  rcases h with h | h | h | h
  · exact h1 h
  · omega
  · exact h h3
  exact h h4
theorem rce_0 {v m b:Nat} {N D:Int} (hv:v < m) (hb:b * b + b * b < m) (hN:sfix (rcs v m b) = (N,D)) (h1:D ≠ 0) (h2:D ≤ b) (h3:Int.gcd N D = 1) (h4:Int.gcd D m = 1):rce v m b = 0 ∧ rcx v m b = N ∧ rcy v m b = D:=by
 have h0:rce v m b = 0:=by
  unfold rce
  rw [if_pos ⟨hv,hb⟩,hN,if_pos]
  simp [rcOk,h1,h2,h3,h4]
 refine ⟨h0,?_,?_⟩
 ·unfold rcx; rw [if_pos h0,hN]
 unfold rcy; rw [if_pos h0,hN]
theorem sfix_neg {x y a c:Int} (h:y < 0) (ha:Hid (-x = a)) (hc:Hid (-y = c)):sfix (x,y) = (a,c):=by
  rw [← ha.out, ← hc.out]; exact if_pos h
theorem sfix_pos {x y:Int} (h:¬ y < 0):sfix (x,y) = (x,y):=if_neg h
theorem wcof {p:Option Addr} {n c:Nat} {L:List (Nat × Nat)} {w:World} (ht:Tb w) (hL:RS w p n L) (h32:∀ x ∈ L,x.1 < 4294967296 ∧ x.2 < 4294967296) (hlen:L.length ≤ 1048576) (hgd:Gd L) :
  Calls Tryz.prog 4 #[.slice p n c] w (Ret (NNEt (cv L).1 (cv L).2 0) w):=by
 have hS:=Sep.init w
 refine went Tryz.func4 rfl (n:=24) rfl rfl ?_
 refine wsr (wavc ?_)
 refine wavc ?_
 refine wavc ?_
 refine wn2 (wmv rfl rfl ?_)
 refine wcl Tryz.call15 (wcall0 (ht.at hS) (hL.at hS) h32 hlen hgd) (ar2 (ev rfl rfl) rfl) hS ?_
 clear hS; rintro _ _ w1 ⟨g1,s1,rfl,rfl⟩ hS
 refine wmv rfl rfl ?_
 refine wl rfl (oEx rfl rfl (ev rfl rfl) rfl ?_)
 refine wl rfl (oEx rfl rfl (ev rfl rfl) rfl ?_)
 refine wav rfl rfl ?_
 refine wav rfl rfl ?_
 refine wn1 (wSq (wSq ?_))
 obtain ⟨pV,nV,cV,pM,nM,cM,pP,cP,pD,cD,gm⟩:=s1
 obtain hS:=(show Sep w [.blk g1 [.slice pV nV cV,.slice pM nM cM,.slice pP L.length cP,.slice pD L.length cD,.map (some gm)] 58,.rowm pV nV cV (lim (cv L).1),.rowm pM nM cM (lim (cv L).2),.lst 45 2 pP L.length cP (rpE (rps L)),.lst 38 1 pD L.length cD (dgE (dgs L)),.mp Tryz.prog 38 3 gm (mods L)] w1 from hS.unpack)
 refine wreg (wmv rfl rfl ?_)
 refine wbc (z:=.bool false) rfl rfl (bin_neqI0 Tryz.underlying51) ?_
 refine wn1 ?_
 refine wF (ev rfl rfl) ?_
 refine wSk (tNo (wSq ?_))
 refine wSg 11 [16,17,18,19,20,21,22,23,2,3,4] [[],[0],[1,0],[2,0,1],[],[4],[5,4],[6,4,5],[3,0,1,2],[7,0,1,2,3,4,5,6,8],[0,1,2,3,4,5,6,7,8,9]] [] [] [] (fun i9 => ([iSv (.pointer (some ⟨g1,0,none⟩)),iSv (.pointer (some ⟨g1,0,none⟩)),iSv (.pointer (some ⟨g1,0,none⟩)),iSv (.slice pV nV cV),iSv (.pointer (some ⟨g1,0,none⟩)),iSv (.pointer (some ⟨g1,0,none⟩)),iSv (.pointer (some ⟨g1,1,none⟩)),iSv (.slice pM nM cM),iSv (.slice pV nV cV),iSv (.slice pM nM cM),iSv (.int .i64 0)]:List (List Value → Tell)).getD i9 (fun _ _ _ => False)) hNi (fun d _ _ _ _ h => (by cases d <;> exact h)) (by kernel_rfl) (by kernel_rfl) (by kernel_rfl) hS ?_ ?_
 ·
  refine stM rfl rfl rfl rfl rfl (fun _=>isI) ?_
  refine stT rfl (fun hT hS=>?_) ?_
  ·obtain ⟨hv0,hr0⟩:=hT 0 16 rfl rfl
   obtain hS:=hS.flat1 hr0
   exact inNo rfl (oNC (a:=⟨g1,0,none⟩) rfl rfl (ev rfl hv0) (nSm rfl isI))
  refine stT rfl (fun hT hS=>?_) ?_
  ·obtain ⟨hv1,hr1⟩:=hT 1 17 rfl rfl
   obtain hS:=hS.flat1 hr1
   exact inNo rfl (oFA (g:=g1) (off:=0) 0 rfl rfl (ev rfl hv1) Tryz.runUnderlying58 rfl Tryz.sizeOf24 rfl (nSm rfl isI))
  refine stT rfl (fun hT hS=>?_) ?_
  ·obtain ⟨hv2,hr2⟩:=hT 2 18 rfl rfl
   obtain hS:=hS.flat1 hr2
   exact inNo rfl (oL1 oneN hS 0 rfl rfl (ev rfl hv2) rfl rfl (nSm rfl isI))
  refine stM rfl rfl rfl rfl rfl (fun _=>isI) ?_
  refine stT rfl (fun hT hS=>?_) ?_
  ·obtain ⟨hv4,hr4⟩:=hT 4 20 rfl rfl
   obtain hS:=hS.flat1 hr4
   exact inNo rfl (oNC (a:=⟨g1,0,none⟩) rfl rfl (ev rfl hv4) (nSm rfl isI))
  refine stT rfl (fun hT hS=>?_) ?_
  ·obtain ⟨hv5,hr5⟩:=hT 5 21 rfl rfl
   obtain hS:=hS.flat1 hr5
   exact inNo rfl (oFA (g:=g1) (off:=0) 1 rfl rfl (ev rfl hv5) Tryz.runUnderlying58 rfl Tryz.sizeOf24 rfl (nSm rfl isI))
  refine stT rfl (fun hT hS=>?_) ?_
  ·obtain ⟨hv6,hr6⟩:=hT 6 22 rfl rfl
   obtain hS:=hS.flat1 hr6
   exact inNo rfl (oL1 oneN hS 0 rfl rfl (ev rfl hv6) rfl rfl (nSm rfl isI))
  refine stT rfl (fun hT hS=>?_) ?_
  ·obtain ⟨hv3,hr3⟩:=hT 3 19 rfl rfl
   obtain hS:=hS.flat1 hr3
   exact inNo rfl (oassign rfl rfl (ev rfl hv3) (nSm rfl isI))
  refine stT rfl (fun hT hS=>?_) ?_
  ·obtain ⟨hv7,hr7⟩:=hT 7 23 rfl rfl
   obtain hS:=hS.flat1 hr7
   exact inNo rfl (oassign rfl rfl (ev rfl hv7) (nSm rfl isI))
  refine stT rfl (fun _ _=>?_) ?_
  ·exact inNo rfl (oassign rfl rfl evc (nSm rfl isI))
  exact sNi
 intro vs ρ w2 f' hf hT hS
 obtain ⟨hv0,hr0⟩:=hT 0 (by decide)
 obtain ⟨hv1,hr1⟩:=hT 1 (by decide)
 obtain ⟨hv2,hr2⟩:=hT 2 (by decide)
 obtain ⟨hv3,hr3⟩:=hT 3 (by decide)
 obtain ⟨hv4,hr4⟩:=hT 4 (by decide)
 obtain ⟨hv5,hr5⟩:=hT 5 (by decide)
 obtain ⟨hv6,hr6⟩:=hT 6 (by decide)
 obtain ⟨hv7,hr7⟩:=hT 7 (by decide)
 obtain ⟨hv8,hr8⟩:=hT 8 (by decide)
 obtain ⟨hv9,hr9⟩:=hT 9 (by decide)
 obtain ⟨hv10,hr10⟩:=hT 10 (by decide)
 simp only [pool,if_true,hr0,hr1,hr2,hr3,hr4,hr5,hr6,hr7,hr8,hr9,hr10,List.nil_append,List.cons_append,List.append_nil] at hS
 simp only [layf,hv0,hv1,hv2,hv3,hv4,hv5,hv6,hv7,hv8,hv9,hv10] at hf
 subst hf; clear hT hv0 hv1 hv2 hv3 hv4 hv5 hv6 hv7 hv8 hv9 hv10 hr0 hr1 hr2 hr3 hr4 hr5 hr6 hr7 hr8 hr9 hr10
 refine wdone rfl ?_
 refine tNo ?_
 refine wLv ?_
 refine wret3 Tryz.results4 (tlT (v:=.slice pV nV cV) rfl rfl) (tlT (v:=.slice pM nM cM) rfl rfl) (tlT (v:=.int .i64 0) rfl rfl) ?_
 exact ⟨_,_,rfl,⟨_,_,_,_,_,_,rfl,rfl⟩,(show Sep w [.rowm pV nV cV (lim (cv L).1),.rowm pM nM cM (lim (cv L).2)] w2 from hS.pick [1,2] (by decide) rfl).new rfl⟩
theorem wcdigits {p:Option Addr} {n c:Nat} {L:List (Nat × Nat)} {w:World} (ht:Tb w) (hL:RS w p n L) (h32:∀ x ∈ L,x.1 < 4294967296 ∧ x.2 < 4294967296) (hlen:L.length ≤ 1048576) (hgd:Gd L) :
  Calls Tryz.prog 5 #[.slice p n c] w (Ret (DGt L) w):=by
 have hS:=Sep.init w
 refine went Tryz.func5 rfl (n:=19) rfl rfl ?_
 refine wsr (wavc ?_)
 refine wavc ?_
 refine wn2 (wmv rfl rfl ?_)
 refine wcl Tryz.call15 (wcall0 (ht.at hS) (hL.at hS) h32 hlen hgd) (ar2 (ev rfl rfl) rfl) hS ?_
 clear hS; rintro _ _ w1 ⟨g1,s1,rfl,rfl⟩ hS
 refine wmv rfl rfl ?_
 refine wl rfl (oEx rfl rfl (ev rfl rfl) rfl ?_)
 refine wl rfl (oEx rfl rfl (ev rfl rfl) rfl ?_)
 refine wav rfl rfl ?_
 refine wav rfl rfl ?_
 refine wn1 (wSq (wSq ?_))
 obtain ⟨pV,nV,cV,pM,nM,cM,pP,cP,pD,cD,gm⟩:=s1
 obtain hS:=(show Sep w [.blk g1 [.slice pV nV cV,.slice pM nM cM,.slice pP L.length cP,.slice pD L.length cD,.map (some gm)] 58,.rowm pV nV cV (lim (cv L).1),.rowm pM nM cM (lim (cv L).2),.lst 45 2 pP L.length cP (rpE (rps L)),.lst 38 1 pD L.length cD (dgE (dgs L)),.mp Tryz.prog 38 3 gm (mods L)] w1 from hS.unpack)
 refine wreg (wmv rfl rfl ?_)
 refine wbc (z:=.bool false) rfl rfl (bin_neqI0 Tryz.underlying51) ?_
 refine wn1 ?_
 refine wF (ev rfl rfl) ?_
 refine wSk (tNo (wsr (wmv rfl rfl ?_)))
 refine wl rfl (oNC (a:=⟨g1,0,none⟩) rfl rfl (ev rfl rfl) ?_)
 refine wl rfl (oFA (g:=g1) (off:=0) 3 rfl rfl (ev rfl rfl) Tryz.runUnderlying58 rfl Tryz.sizeOf23 rfl ?_)
 refine wl rfl (oL1 ⟨Tryz.isAgg23,Tryz.sizeOf23⟩ hS 0 rfl rfl (ev rfl rfl) rfl rfl ?_)
 refine wav rfl rfl ?_
 refine wavc ?_
 refine wn1 ?_
 refine wLv ?_
 refine wret2 Tryz.results5 (tlT (v:=.slice pD L.length cD) rfl rfl) (tlT (v:=.int .i64 0) rfl rfl) ?_
 exact ⟨_,_,rfl,⟨_,_,rfl,rfl⟩,hS.newR 4 rfl rfl⟩
theorem wcofE {p:Option Addr} {n c:Nat} {L:List (Nat × Nat)} {w:World} (ht:Tb w) (hL:RS w p n L) (h32:∀ x ∈ L,x.1 < 4294967296 ∧ x.2 < 4294967296) (hlen:L.length ≤ 1048576) (hne:code [] L ≠ 0) :
  Calls Tryz.prog 4 #[.slice p n c] w (Ret (Is (.tuple #[.slice none 0 0,.slice none 0 0,.int .i64 (((code [] L:Nat):Int))])) w):=by
 have hS:=Sep.init w
 refine went Tryz.func4 rfl (n:=24) rfl rfl ?_
 refine wsr (wavc ?_)
 refine wavc ?_
 refine wavc ?_
 refine wn2 (wmv rfl rfl ?_)
 refine wcl Tryz.call15 (wcallE (ht.at hS) (hL.at hS) h32 hlen hne) (ar2 (ev rfl rfl) rfl) hS ?_
 clear hS; rintro _ _ w1 ⟨rfl,rfl⟩ hS
 refine wmv rfl rfl ?_
 refine wl rfl (oEx rfl rfl (ev rfl rfl) rfl ?_)
 refine wl rfl (oEx rfl rfl (ev rfl rfl) rfl ?_)
 refine wav rfl rfl ?_
 refine wav rfl rfl ?_
 refine wn1 (wSq (wsr (wmv rfl rfl ?_)))
 refine wbc (z:=.bool true) rfl rfl (bin_neqI Tryz.underlying51) ?_
 refine wn1 ?_
 refine wT (ev rfl rfl) ?_
 refine wsr (wmv rfl rfl ?_)
 refine wcl Tryz.call17 (wcerrno (code_cases.resolve_left hne)) (ar1 (ev rfl rfl)) hS ?_
 clear hS; rintro _ _ w2 ⟨rfl,rfl⟩ hS
 refine wavc ?_
 refine wavc ?_
 refine wav rfl rfl ?_
 refine wn1 ?_
 refine wLv ?_
 refine thenR ?_
 refine wret3 Tryz.results4 (tlT (v:=.slice none 0 0) rfl rfl) (tlT (v:=.slice none 0 0) rfl rfl) (tlT (v:=.int .i64 ((code [] L:Nat):Int)) rfl rfl) ?_
 exact ⟨_,_,rfl,isI,hS.new0⟩
theorem wcdigitsE {p:Option Addr} {n c:Nat} {L:List (Nat × Nat)} {w:World} (ht:Tb w) (hL:RS w p n L) (h32:∀ x ∈ L,x.1 < 4294967296 ∧ x.2 < 4294967296) (hlen:L.length ≤ 1048576) (hne:code [] L ≠ 0) :
  Calls Tryz.prog 5 #[.slice p n c] w (Ret (Is (.tuple #[.slice none 0 0,.int .i64 (((code [] L:Nat):Int))])) w):=by
 have hS:=Sep.init w
 refine went Tryz.func5 rfl (n:=19) rfl rfl ?_
 refine wsr (wavc ?_)
 refine wavc ?_
 refine wn2 (wmv rfl rfl ?_)
 refine wcl Tryz.call15 (wcallE (ht.at hS) (hL.at hS) h32 hlen hne) (ar2 (ev rfl rfl) rfl) hS ?_
 clear hS; rintro _ _ w1 ⟨rfl,rfl⟩ hS
 refine wmv rfl rfl ?_
 refine wl rfl (oEx rfl rfl (ev rfl rfl) rfl ?_)
 refine wl rfl (oEx rfl rfl (ev rfl rfl) rfl ?_)
 refine wav rfl rfl ?_
 refine wav rfl rfl ?_
 refine wn1 (wSq (wsr (wmv rfl rfl ?_)))
 refine wbc (z:=.bool true) rfl rfl (bin_neqI Tryz.underlying51) ?_
 refine wn1 ?_
 refine wT (ev rfl rfl) ?_
 refine wsr (wmv rfl rfl ?_)
 refine wcl Tryz.call17 (wcerrno (code_cases.resolve_left hne)) (ar1 (ev rfl rfl)) hS ?_
 clear hS; rintro _ _ w2 ⟨rfl,rfl⟩ hS
 refine wavc ?_
 refine wav rfl rfl ?_
 refine wn1 ?_
 refine wLv ?_
 refine thenR ?_
 refine wret2 Tryz.results5 (tlT (v:=.slice none 0 0) rfl rfl) (tlT (v:=.int .i64 ((code [] L:Nat):Int)) rfl rfl) ?_
 exact ⟨_,_,rfl,isI,hS.new0⟩
theorem wcrecon {pv pm pb:Option Addr} {nv cv nm cm nb cb v m b:Nat} {w:World} (hv:Nr w pv nv cv v 2097152) (hm:Nr w pm nm cm m 2097152) (hb:Nr w pb nb cb b 2097152) (h0:rce v m b = 0) :
  Calls Tryz.prog 35 #[.slice pv nv cv,.slice pm nm cm,.slice pb nb cb] w (Ret (RWt (rcx v m b) (rcy v m b) 0) w):=by
 have hzv:=hv.zr
 have hzm:=hm.zr
 have hzb:=hb.zr
 have hS:=Sep.init w
 refine went Tryz.func35 rfl (n:=102) rfl rfl ?_
 refine wsr (wl rfl (oAl [.bool false,.slice none 0 0,.bool false,.slice none 0 0] hS rfl rfl Tryz.zeroValue76 rfl ?_))
 clear hS; intro g1 w2 hS
 refine wavc ?_
 refine wn2 (wmv rfl rfl ?_)
 refine wmv rfl rfl ?_
 obtain ⟨x1,hx1⟩:∃ x:Nat,Hid (b * b = x):=⟨_,rfl⟩
 have hkx1:ll x1 ≤ 4194304:=Nd.mul hb.ll hb.ll hx1 (by omega)
 refine wcl Tryz.call54 (wnmul ((hb.at hS).mono (by omega)) ((hb.at hS).mono (by omega)) hx1) (ar2 (ev rfl rfl) (ev rfl rfl)) hS ?_
 clear hS; rintro _ _ w3 ⟨p1,n1,c1,rfl,rfl⟩ hS
 refine wav rfl rfl ?_
 refine wn1 (wSq (wsr (wmv rfl rfl ?_)))
 refine wmv rfl rfl ?_
 obtain ⟨s2,hs2⟩:∃ z:Int,Hid (cmpN v m = z):=⟨_,rfl⟩
 refine wcl Tryz.call55 (wncmp (hv.at hS) (hm.at hS) hs2) (ar2 (ev rfl rfl) (ev rfl rfl)) hS ?_
 clear hS; rintro _ _ w4 ⟨rfl,rfl⟩ hS
 have hq1:=hx1.out
 by_cases hvm:v < m
 ·
  refine wbc rfl rfl (bin_geq (decide_eq_false (by rw [← hs2.out]; have:=cmpN_below hvm; omega))) ?_
  refine wmv rfl rfl ?_
  refine wlOn (e:=25) rfl rfl rfl rfl (omove rfl rfl (ev rfl rfl) ?_)
  refine wlOn (e:=25) rfl rfl rfl rfl (omove rfl rfl (ev rfl rfl) ?_)
  obtain ⟨x3,hx3⟩:∃ x:Nat,Hid (x1 + x1 = x):=⟨_,rfl⟩
  have hkx3:ll x3 ≤ 4194305:=Nd.add hkx1 hkx1 hx3 (by omega)
  refine wlOn (e:=25) rfl rfl rfl rfl (oCl rfl rfl Tryz.call56 rfl (wnadd (((hS.sl 0 rfl).nr hkx1).mono (by omega)) (((hS.sl 0 rfl).nr hkx1).mono (by omega)) hx3) (ar2 (ev rfl rfl) (ev rfl rfl)) ?_)
  rintro _ w5 ⟨_,_,rfl,⟨p3,n3,c3,rfl,rfl⟩,hN⟩
  refine ⟨_,rfl,?_⟩
  replace hS:=hS.news hN; clear hN
  refine wlOn (e:=25) rfl rfl rfl rfl (omove rfl rfl (ev rfl rfl) ?_)
  obtain ⟨s4,hs4⟩:∃ z:Int,Hid (cmpN x3 m = z):=⟨_,rfl⟩
  refine wlOn (e:=25) rfl rfl rfl rfl (oCl rfl rfl Tryz.call55 rfl (wncmp ((hS.sl 0 rfl).nr hkx3) (hm.at hS) hs4) (ar2 (ev rfl rfl) (ev rfl rfl)) ?_)
  rintro _ w6 ⟨_,_,rfl,⟨rfl,rfl⟩,hN⟩
  refine ⟨_,rfl,?_⟩
  replace hS:=hS.news hN; clear hN
  have hq3:=hx3.out
  by_cases hx3m:x3 < m
  ·
   refine wlOn (e:=25) rfl rfl rfl rfl (obin rfl rfl (ev rfl rfl) evc (bin_geq (decide_eq_false (by rw [← hs4.out]; have:=cmpN_below hx3m; omega))) ?_)
   refine wl rfl (opick rfl rfl (ev rfl rfl) (ev rfl rfl) ?_)
   refine wn1 ?_
   refine wF (ev rfl rfl) ?_
   refine wSk (tNo (wsr (wmv rfl rfl ?_)))
   refine wl rfl (obuild (ps:=#[(1,.slice pm nm cm)]) (v:=.agg #[.bool false,.slice pm nm cm]) rfl rfl (parts1 (ev rfl rfl)) (fun w => by simp [go_sem,Instr.build,Instr.fill]) ?_)
   refine wmv rfl rfl ?_
   refine wl rfl (obuild (ps:=#[(1,.slice pv nv cv)]) (v:=.agg #[.bool false,.slice pv nv cv]) rfl rfl (parts1 (ev rfl rfl)) (fun w => by simp [go_sem,Instr.build,Instr.fill]) ?_)
   refine wl rfl (oAl [.bool false,.slice none 0 0] hS rfl rfl Tryz.zeroValue60 rfl ?_)
   clear hS; intro g7 w8 hS
   refine wl rfl (oAl [.bool false,.slice none 0 0] hS rfl rfl Tryz.zeroValue60 rfl ?_)
   clear hS; intro g9 w10 hS
   refine wl rfl (oSt _ _ Tryz.sizeOf60 hS 1 rfl rfl (ev rfl rfl) (ev rfl rfl) rfl rfl rfl rfl rfl rfl ?_)
   clear hS; intro w11 hS
   refine wl rfl (oSt _ _ Tryz.sizeOf60 hS 0 rfl rfl (ev rfl rfl) (ev rfl rfl) rfl rfl rfl rfl rfl rfl ?_)
   clear hS; intro w12 hS
   refine wn2 ?_
   have hk5:Wd 0 2:=Wd.i64 (by omega) (by omega)
   refine wcl Tryz.call57 (wzof (z:=0) (by omega) (by omega)) (ar1 evc) hS ?_
   clear hS; rintro _ _ w13 ⟨p5,n5,c5,rfl,rfl⟩ hS
   have hk6:Wd 1 2:=Wd.i64 (by omega) (by omega)
   refine wcl Tryz.call57 (wzof (z:=1) (by omega) (by omega)) (ar1 evc) hS ?_
   clear hS; rintro _ _ w14 ⟨p6,n6,c6,rfl,rfl⟩ hS
   refine wl rfl (oAl [.bool false,.slice none 0 0] hS rfl rfl Tryz.zeroValue60 rfl ?_)
   clear hS; intro g15 w16 hS
   refine wl rfl (oAl [.bool false,.slice none 0 0] hS rfl rfl Tryz.zeroValue60 rfl ?_)
   clear hS; intro g17 w18 hS
   refine wl rfl (oSt _ _ Tryz.sizeOf60 hS 1 rfl rfl (ev rfl rfl) (ev rfl rfl) rfl rfl rfl rfl rfl rfl ?_)
   clear hS; intro w19 hS
   refine wl rfl (oSt _ _ Tryz.sizeOf60 hS 0 rfl rfl (ev rfl rfl) (ev rfl rfl) rfl rfl rfl rfl rfl rfl ?_)
   clear hS; intro w20 hS
   refine wn2 (wmv rfl rfl ?_)
   refine wl rfl (obuild (ps:=#[(1,.slice pb nb cb)]) (v:=.agg #[.bool false,.slice pb nb cb]) rfl rfl (parts1 (ev rfl rfl)) (fun w => by simp [go_sem,Instr.build,Instr.fill]) ?_)
   refine wl rfl (oAl [.bool false,.slice none 0 0] hS rfl rfl Tryz.zeroValue60 rfl ?_)
   clear hS; intro g21 w22 hS
   refine wl rfl (oSt _ _ Tryz.sizeOf60 hS 0 rfl rfl (ev rfl rfl) (ev rfl rfl) rfl rfl rfl rfl rfl rfl ?_)
   clear hS; intro w23 hS
   refine wn1 (wSq (wBk ?_))
   have hbm:b * b + b * b < m:=by omega
   have hq:=hzm
   obtain ⟨l0ra,hl0ra,he0ra,hm0ra⟩:=hq
   replace hS:=hS.addArg hl0ra rfl
   have hq:=hzv
   obtain ⟨l0rb,hl0rb,he0rb,hm0rb⟩:=hq
   replace hS:=hS.addArg hl0rb rfl
   refine wLp (σ := Nat) (fun k a9 w' => ∃ (fb:Nat → Value) (ra:Int) (rb:Int) (xa:Int) (xb:Int) (pra:Option Addr) (nra:Nat) (cra:Nat) (prb:Option Addr) (nrb:Nat) (crb:Nat) (pxa:Option Addr) (nxa:Nat) (cxa:Nat) (pxb:Option Addr) (nxb:Nat) (cxb:Nat) (lra:List Nat) (lrb:List Nat) (bra:Bool) (brb:Bool),a9 = act 102 (sets fb [(1,.slice pm nm cm),(6,.pointer (some ⟨g1,0,none⟩)),(7,.int .i64 0),(9,.pointer (some ⟨g7,0,none⟩)),(10,.pointer (some ⟨g9,0,none⟩)),(11,.pointer (some ⟨g15,0,none⟩)),(12,.pointer (some ⟨g17,0,none⟩)),(13,.pointer (some ⟨g21,0,none⟩))]) ∧ Sep w [.rd prb nrb crb lrb,.rd pra nra cra lra,.blk g21 [.bool false,.slice pb nb cb] 60,.blk g17 [.bool (ng xb),.slice pxb nxb cxb] 60,.blk g15 [.bool (ng xa),.slice pxa nxa cxa] 60,.row pxb nxb cxb (lim xb.natAbs),.row pxa nxa cxa (lim xa.natAbs),.blk g9 [.bool brb,.slice prb nrb crb] 60,.blk g7 [.bool bra,.slice pra nra cra] 60,.row p3 n3 c3 (lim x3),.row p1 n1 c1 (lim x1),.blk g1 [.bool false,.slice none 0 0,.bool false,.slice none 0 0] 76] w' ∧ (Steps3 (v:Int) (m:Int) ra rb xa xb) ∧ (rgo (b:Int) rb.natAbs ra rb xa xb = rcs v m b) ∧ (rb.natAbs = k) ∧ (Wd ra 2097152) ∧ (Wd rb 2097152) ∧ (Wd xa 2097152) ∧ (Wd xb 2097152) ∧ (zv bra (val lra) = ra) ∧ (nra ≤ 2097152) ∧ (zv brb (val lrb) = rb) ∧ (nrb ≤ 2097152)) (fun k => k) (v) ⟨_,(m:Int),(v:Int),0,1,_,_,_,_,_,_,_,_,_,_,_,_,_,_,false,false,aSs ⟨rfl,rfl,rfl,rfl,rfl,rfl,rfl,rfl,trivial⟩,hS,Steps3.startI (by omega) (by omega) (by omega),rfl,rfl,(hzm.wd).mono (by omega),(hzv.wd).mono (by omega),(hk5).mono (by omega),(hk6).mono (by omega),he0ra,(Nat.le_trans hm0ra (by omega)),he0rb,(Nat.le_trans hm0rb (by omega))⟩ ?_
   clear hS; rintro k _ w24 ⟨fb,ra,rb,xa,xb,pra,nra,cra,prb,nrb,crb,pxa,nxa,cxa,pxb,nxb,cxb,lra,lrb,bra,brb,rfl,hS,hst,hT,hmu,hkra,hkrb,hkxa,hkxb,hvra,hnra,hvrb,hnrb⟩
   refine wSq (wsr (wl rfl (oLd aggZ hS 7 rfl rfl (ev rfl rfl) rfl rfl rfl ?_)))
   refine wl rfl (oLd aggZ hS 2 rfl rfl (ev rfl rfl) rfl rfl rfl ?_)
   obtain ⟨s7,hs7⟩:∃ z:Int,Hid (cmpZ rb (((b:Nat):Int)) = z):=⟨_,rfl⟩
   refine wcl Tryz.call58 (wzcmp ((show Zr _ _ _ _ _ rb 2097152 from ⟨_,hS.rdAt 0 rfl,hvrb,hnrb⟩).mono (by omega)) ((hzb.at hS).mono (by omega)) hs7) (ar2 (ev rfl rfl) (ev rfl rfl)) hS ?_
   clear hS; rintro _ _ w25 ⟨rfl,rfl⟩ hS
   by_cases hle:rb ≤ ((b:Nat):Int)
   ·
    refine wbc (z:=.bool false) rfl rfl (bin_gtr (cmpZ_gtF hs7 (by omega))) ?_
    refine wn1 ?_
    refine wF (ev rfl rfl) ?_
    refine wEx ?_
    refine tEx ?_
    refine tEx ?_
    refine blkE ?_
    refine tNo ?_
    have hTe:rcs v m b = (rb,xb):=by rw [← hT,rgo_end hle]
    refine wjoin (I:=fun a9 w' => ∃ (fb:Nat → Value) (N:Int) (D:Int) (pN:Option Addr) (nN:Nat) (cN:Nat) (pD:Option Addr) (nD:Nat) (cD:Nat) (lN:List Nat) (bN:Bool),a9 = act 102 (sets fb [(1,.slice pm nm cm),(6,.pointer (some ⟨g1,0,none⟩)),(7,.int .i64 0),(10,.pointer (some ⟨g9,0,none⟩)),(12,.pointer (some ⟨g17,0,none⟩)),(13,.pointer (some ⟨g21,0,none⟩))]) ∧ Sep w [.rd pN nN cN lN,.rd pra nra cra lra,.blk g21 [.bool false,.slice pb nb cb] 60,.blk g17 [.bool (ng D),.slice pD nD cD] 60,.blk g15 [.bool (ng xa),.slice pxa nxa cxa] 60,.row pD nD cD (lim D.natAbs),.row pxa nxa cxa (lim xa.natAbs),.blk g9 [.bool bN,.slice pN nN cN] 60,.blk g7 [.bool bra,.slice pra nra cra] 60,.row p3 n3 c3 (lim x3),.row p1 n1 c1 (lim x1),.blk g1 [.bool false,.slice none 0 0,.bool false,.slice none 0 0] 76] w' ∧ (sfix (rcs v m b) = (N,D)) ∧ (Wd N 2097152) ∧ (Wd D 2097152) ∧ (zv bN (val lN) = N) ∧ (nN ≤ 2097152)) ?_ ?_
    ·
     refine wsr (wl rfl (oLd aggZ hS 3 rfl rfl (ev rfl rfl) rfl rfl rfl ?_))
     obtain ⟨s8,hs8⟩:∃ z:Int,Hid ((xb:Int).sign = z):=⟨_,rfl⟩
     refine wcl Tryz.call62 (wzsign (((hS.sl 5 rfl).zr hkxb).mono (by omega)) hs8) (ar1 (ev rfl rfl)) hS ?_
     clear hS; rintro _ _ w26 ⟨rfl,rfl⟩ hS
     refine wbc (z:=.bool (decide (s8 < 0))) rfl rfl (bLs (rfl)) ?_
     refine wn1 ?_
     by_cases hneg:xb < 0
     ·
      skip
      refine wT ((ev rfl rfl).trans (congrArg Value.bool (ltT (sgn_neg hs8 hneg)))) ?_
      obtain ⟨z9,hz9⟩:∃ z:Int,Hid (-rb = z):=⟨_,rfl⟩
      have hk9:Wd z9 2097152:=Wd.neg hkrb hz9
      obtain ⟨z10,hz10⟩:∃ z:Int,Hid (-xb = z):=⟨_,rfl⟩
      have hk10:Wd z10 2097152:=Wd.neg hkxb hz10
      refine wSg 4 [64,65,66,67] [[],[0],[],[2,0,1]] [] [] [] (fun i9 => ([iSv (.agg #[.bool brb,.slice prb nrb crb]),fun _ => Zt z9,iSv (.agg #[.bool (ng xb),.slice pxb nxb cxb]),fun _ => Zt z10]:List (List Value → Tell)).getD i9 (fun _ _ _ => False)) hNi (fun d _ _ _ _ h => (by cases d <;> exact h)) (by kernel_rfl) (by kernel_rfl) (by kernel_rfl) hS ?_ ?_
      ·
       refine stH rfl (fun ho hS=>?_) ?_
       ·exact inNo rfl (oLd aggZ hS 7 rfl rfl (ev rfl (ho 10 rfl)) rfl rfl rfl (nSm rfl isI))
       refine stT rfl (fun hT hS=>?_) ?_
       ·obtain ⟨hv0,hr0⟩:=hT 0 64 rfl rfl
        obtain hS:=hS.flat1 hr0
        exact .inl ⟨wNo rfl,oCl rfl rfl Tryz.call63 rfl (wzneg ((show Zr _ _ _ _ _ rb 2097152 from ⟨_,hS.rdAt 0 rfl,hvrb,hnrb⟩).mono (by omega)) hz9) (ar1 (ev rfl hv0)) cNw⟩
       refine stH rfl (fun ho hS=>?_) ?_
       ·exact inNo rfl (oLd aggZ hS 3 rfl rfl (ev rfl (ho 12 rfl)) rfl rfl rfl (nSm rfl isI))
       refine stT rfl (fun hT hS=>?_) ?_
       ·obtain ⟨hv2,hr2⟩:=hT 2 66 rfl rfl
        obtain hS:=hS.flat1 hr2
        exact .inl ⟨wNo rfl,oCl rfl rfl Tryz.call63 rfl (wzneg (((hS.sl 5 rfl).zr hkxb).mono (by omega)) hz10) (ar1 (ev rfl hv2)) cNw⟩
       exact sNi
      intro vs ρ w27 f' hf hT hS
      obtain ⟨hv0,hr0⟩:=hT 0 (by decide)
      obtain ⟨p9,n9,c9,hv1,hr1⟩:=(hT 1 (by decide):(Zt z9) _ _)
      obtain ⟨hv2,hr2⟩:=hT 2 (by decide)
      obtain ⟨p10,n10,c10,hv3,hr3⟩:=(hT 3 (by decide):(Zt z10) _ _)
      simp only [pool,if_true,hr0,hr1,hr2,hr3,List.nil_append,List.cons_append,List.append_nil] at hS
      simp only [layf,hv0,hv1,hv2,hv3] at hf
      subst hf; clear hT hv0 hv1 hv2 hv3 hr0 hr1 hr2 hr3
      refine wLt 4 rfl (by kernel_rfl) (oSt _ _ Tryz.sizeOf60 hS 9 rfl rfl (ev rfl rfl) (ev rfl rfl) rfl rfl rfl rfl rfl rfl ?_)
      clear hS; intro w28 hS
      refine ⟨hNi,?_⟩
      refine wLt 5 rfl (by kernel_rfl) (oSt _ _ Tryz.sizeOf60 hS 5 rfl rfl (ev rfl rfl) (ev rfl rfl) rfl rfl rfl rfl rfl rfl ?_)
      clear hS; intro w29 hS
      refine ⟨hNi,?_⟩
      refine wdone rfl ?_
      refine tNo ?_
      have hln9:n9 ≤ 2097152:=by rw [(hS.sl 1 rfl).lln]; exact hk9.mono (by omega)
      replace hS:=hS.asRd 1 rfl
      exact ⟨_,z9,z10,_,_,_,_,_,_,_,ng z9,aSs ⟨rfl,rfl,rfl,rfl,rfl,rfl,trivial⟩,hS.pick [1,3,4,5,6,0,8,9,10,11,12,13] (by decide) rfl,by rw [hTe]; exact sfix_neg hneg hz9 hz10,(hk9).mono (by omega),(hk10).mono (by omega),(by rw [vLm,zv_ng]),hln9⟩
     refine wF ((ev rfl rfl).trans (congrArg Value.bool (ltF (sgn_nn hs8 (by omega))))) ?_
     refine wSk (tNo ?_)
     exact ⟨_,rb,xb,_,_,_,_,_,_,_,brb,aSs ⟨rfl,rfl,rfl,rfl,rfl,rfl,trivial⟩,hS.pick [0,1,2,3,4,5,6,7,8,9,10,11] (by decide) rfl,by rw [hTe]; exact sfix_pos hneg,(hkrb).mono (by omega),(hkxb).mono (by omega),hvrb,hnrb⟩
    clear hS; rintro _ w26 ⟨fb,N,D,pN,nN,cN,pD,nD,cD,lN,bN,rfl,hS,hN,hkN,hkD,hvN,hnN⟩
    refine wsr ?_
    have hk8:Wd 1 2:=Wd.i64 (by omega) (by omega)
    refine wcl Tryz.call57 (wzof (z:=1) (by omega) (by omega)) (ar1 evc) hS ?_
    clear hS; rintro _ _ w27 ⟨p8,n8,c8,rfl,rfl⟩ hS
    refine wl rfl (oAl [.bool false,.slice none 0 0] hS rfl rfl Tryz.zeroValue60 rfl ?_)
    clear hS; intro g28 w29 hS
    refine wl rfl (oSt _ _ Tryz.sizeOf60 hS 0 rfl rfl (ev rfl rfl) (ev rfl rfl) rfl rfl rfl rfl rfl rfl ?_)
    clear hS; intro w30 hS
    refine wn1 (wSq (wSq ?_))
    obtain ⟨s9,hs9⟩:∃ z:Int,Hid ((D:Int).sign = z):=⟨_,rfl⟩
    by_cases hd0:D = 0
    ·
     have hcode:=rce_61 hvm hbm hN (.inl hd0)
     exact absurd h0 (by rw [hcode]; decide)
    obtain ⟨s10,hs10⟩:∃ z:Int,Hid (cmpZ D (((b:Nat):Int)) = z):=⟨_,rfl⟩
    by_cases hdb:((b:Nat):Int) < D
    ·
     have hcode:=rce_61 hvm hbm hN (.inr (.inl hdb))
     exact absurd h0 (by rw [hcode]; decide)
    obtain ⟨z11,hz11⟩:∃ z:Int,Hid ((Int.gcd N D:Int) = z):=⟨_,rfl⟩
    have hk11:Wd z11 2097152:=Wd.gcd hkN hkD hz11 (by omega)
    obtain ⟨s12,hs12⟩:∃ z:Int,Hid (cmpZ z11 1 = z):=⟨_,rfl⟩
    by_cases hg1:Int.gcd N D = 1
    ·
     obtain ⟨z13,hz13⟩:∃ z:Int,Hid ((Int.gcd D (((m:Nat):Int)):Int) = z):=⟨_,rfl⟩
     have hk13:Wd z13 2097152:=Wd.gcd hkD hzm.wd hz13 (by omega)
     obtain ⟨s14,hs14⟩:∃ z:Int,Hid (cmpZ z13 1 = z):=⟨_,rfl⟩
     by_cases hg2:Int.gcd D ((m:Nat):Int) = 1
     ·
      refine wSg 28 [69,70,71,72,73,74,75,76,77,78,79,80,81,82,83,84,85,86,87,88,89,90,91,92,93,94,95,96] [[],[0],[1,0],[2,0,1],[3,0,1,2],[3,0,1,2],[3,4,5,0,1,2],[3,6,0,1,2,4,5],[3,7,0,1,2,4,5,6],[8,0,1,2,3,4,5,6,7],[9,0,1,2,3,4,5,6,7,8],[9,0,1,2,3,4,5,6,7,8],[9,10,11,0,1,2,3,4,5,6,7,8],[9,12,0,1,2,3,4,5,6,7,8,10,11],[9,0,1,2,3,4,5,6,7,8],[9,13,14,0,1,2,3,4,5,6,7,8,10,11,12],[9,15,0,1,2,3,4,5,6,7,8,10,11,12,13,14],[9,16,0,1,2,3,4,5,6,7,8,10,11,12,13,14,15],[17,0,1,2,3,4,5,6,7,8,9,10,11,12,13,14,15,16],[18,0,1,2,3,4,5,6,7,8,9,10,11,12,13,14,15,16,17],[18,0,1,2,3,4,5,6,7,8,9,10,11,12,13,14,15,16,17],[18,20,0,1,2,3,4,5,6,7,8,9,10,11,12,13,14,15,16,17],[18,19,21,0,1,2,3,4,5,6,7,8,9,10,11,12,13,14,15,16,17,20],[18,22,0,1,2,3,4,5,6,7,8,9,10,11,12,13,14,15,16,17,19,20,21],[18,0,1,2,3,4,5,6,7,8,9,10,11,12,13,14,15,16,17],[18,23,24,0,1,2,3,4,5,6,7,8,9,10,11,12,13,14,15,16,17,19,20,21,22],[18,25,0,1,2,3,4,5,6,7,8,9,10,11,12,13,14,15,16,17,19,20,21,22,23,24],[18,26,0,1,2,3,4,5,6,7,8,9,10,11,12,13,14,15,16,17,19,20,21,22,23,24,25]] [] [] [] (fun i9 => ([iSv (.agg #[.bool (ng D),.slice pD nD cD]),iSv (.int .i64 s9),iSv (.bool false),iSv (.bool false),iSv (.agg #[.bool (ng D),.slice pD nD cD]),iSv (.agg #[.bool false,.slice pb nb cb]),iSv (.int .i64 s10),iSv (.bool false),iSv (.bool false),iSv (.bool false),iSv (.agg #[.bool bN,.slice pN nN cN]),iSv (.agg #[.bool (ng D),.slice pD nD cD]),fun _ => Slb [.bool bN,.slice pN nN cN,.bool (ng D),.slice pD nD cD] 60 2,fun _ => Zt z11,iSv (.agg #[.bool (ng 1),.slice p8 n8 c8]),iSv (.int .i64 s12),iSv (.bool false),iSv (.bool false),iSv (.bool false),iSv (.agg #[.bool (ng D),.slice pD nD cD]),iSv (.slice pm nm cm),iSv (.agg #[.bool false,.slice pm nm cm]),fun _ => Slb [.bool (ng D),.slice pD nD cD,.bool false,.slice pm nm cm] 60 2,fun _ => Zt z13,iSv (.agg #[.bool (ng 1),.slice p8 n8 c8]),iSv (.int .i64 s14),iSv (.bool false),iSv (.bool false)]:List (List Value → Tell)).getD i9 (fun _ _ _ => False)) hNi (fun d _ _ _ _ h => (by cases d <;> exact h)) (by kernel_rfl) (by kernel_rfl) (by kernel_rfl) hS ?_ ?_
      ·
       refine stH rfl (fun ho hS=>?_) ?_
       ·exact inNo rfl (oLd aggZ hS 5 rfl rfl (ev rfl (ho 12 rfl)) rfl rfl rfl (nSm rfl isI))
       refine stT rfl (fun hT hS=>?_) ?_
       ·obtain ⟨hv0,hr0⟩:=hT 0 69 rfl rfl
        obtain hS:=hS.flat1 hr0
        exact .inl ⟨wNo rfl,oCl rfl rfl Tryz.call62 rfl (wzsign (((hS.sl 7 rfl).zr hkD).mono (by omega)) hs9) (ar1 (ev rfl hv0)) cNw⟩
       refine stT rfl (fun hT hS=>?_) ?_
       ·obtain ⟨hv1,hr1⟩:=hT 1 70 rfl rfl
        obtain hS:=hS.flat1 hr1
        exact inNo rfl (obin (z:=.bool false) rfl rfl (ev rfl hv1) evc (bEq (sign_ne hs9 hd0)) (nSm rfl isI))
       refine stT rfl (fun hT hS=>?_) ?_
       ·obtain ⟨hv2,hr2⟩:=hT 2 71 rfl rfl
        obtain hS:=hS.flat1 hr2
        exact inNo rfl (omove rfl rfl (ev rfl hv2) (nSm rfl isI))
       refine stC rfl (fun _ _ _ _ _ ho hT hS _=>?_) ?_
       ·obtain ⟨hv3,hr3⟩:=hT 3 72 rfl rfl
        obtain hS:=hS.flat1 hr3
        exact .inl ⟨want_on (e:=72) rfl rfl rfl hv3,oLd aggZ hS 5 rfl rfl (ev rfl (ho 12 rfl)) rfl rfl rfl ⟨_,_,rfl,isI,New.same _⟩⟩
       refine stC rfl (fun _ _ _ _ _ ho hT hS _=>?_) ?_
       ·obtain ⟨hv3,hr3⟩:=hT 3 72 rfl rfl
        obtain hS:=hS.flat1 hr3
        exact .inl ⟨want_on (e:=72) rfl rfl rfl hv3,oLd aggZ hS 4 rfl rfl (ev rfl (ho 13 rfl)) rfl rfl rfl ⟨_,_,rfl,isI,New.same _⟩⟩
       refine stT rfl (fun hT hS=>?_) ?_
       ·obtain ⟨hv3,hr3⟩:=hT 3 72 rfl rfl
        obtain ⟨hv4,hr4⟩:=hT 4 73 rfl rfl
        obtain ⟨hv5,hr5⟩:=hT 5 74 rfl rfl
        obtain hS:=hS.flat3 hr3 hr4 hr5
        exact .inl ⟨want_on (e:=72) rfl rfl rfl hv3,oCl rfl rfl Tryz.call58 rfl (wzcmp (((hS.sl 7 rfl).zr hkD).mono (by omega)) ((hzb.at hS).mono (by omega)) hs10) (ar2 (ev rfl hv4) (ev rfl hv5)) cNw⟩
       refine stT rfl (fun hT hS=>?_) ?_
       ·obtain ⟨hv3,hr3⟩:=hT 3 72 rfl rfl
        obtain ⟨hv6,hr6⟩:=hT 6 75 rfl rfl
        obtain hS:=hS.flat2 hr3 hr6
        exact .inl ⟨want_on (e:=72) rfl rfl rfl hv3,obin (z:=.bool false) rfl rfl (ev rfl hv6) evc (bin_gtr (cmpZ_gtF hs10 (by omega))) ⟨_,_,rfl,isI,New.same _⟩⟩
       refine stT rfl (fun hT hS=>?_) ?_
       ·obtain ⟨hv3,hr3⟩:=hT 3 72 rfl rfl
        obtain ⟨hv7,hr7⟩:=hT 7 76 rfl rfl
        obtain hS:=hS.flat2 hr3 hr7
        exact inNo rfl (opick rfl rfl (ev rfl hv3) (ev rfl hv7) (nSm rfl isI))
       refine stT rfl (fun hT hS=>?_) ?_
       ·obtain ⟨hv8,hr8⟩:=hT 8 77 rfl rfl
        obtain hS:=hS.flat1 hr8
        exact inNo rfl (omove rfl rfl (ev rfl hv8) (nSm rfl isI))
       refine stC rfl (fun _ _ _ _ _ ho hT hS _=>?_) ?_
       ·obtain ⟨hv9,hr9⟩:=hT 9 78 rfl rfl
        obtain hS:=hS.flat1 hr9
        exact .inl ⟨want_on (e:=78) rfl rfl rfl hv9,oLd aggZ hS 9 rfl rfl (ev rfl (ho 10 rfl)) rfl rfl rfl ⟨_,_,rfl,isI,New.same _⟩⟩
       refine stC rfl (fun _ _ _ _ _ ho hT hS _=>?_) ?_
       ·obtain ⟨hv9,hr9⟩:=hT 9 78 rfl rfl
        obtain hS:=hS.flat1 hr9
        exact .inl ⟨want_on (e:=78) rfl rfl rfl hv9,oLd aggZ hS 5 rfl rfl (ev rfl (ho 12 rfl)) rfl rfl rfl ⟨_,_,rfl,isI,New.same _⟩⟩
       refine stT rfl (fun hT hS=>?_) ?_
       ·obtain ⟨hv9,hr9⟩:=hT 9 78 rfl rfl
        obtain ⟨hv10,hr10⟩:=hT 10 79 rfl rfl
        obtain ⟨hv11,hr11⟩:=hT 11 80 rfl rfl
        obtain hS:=hS.flat3 hr9 hr10 hr11
        exact .inl ⟨want_on (e:=78) rfl rfl rfl hv9,obsliceN (ps:=#[(0,.agg #[.bool bN,.slice pN nN cN]),(1,.agg #[.bool (ng D),.slice pD nD cD])]) (z:=.agg #[.bool false,.slice none 0 0]) [.bool bN,.slice pN nN cN,.bool (ng D),.slice pD nD cD] rfl rfl Tryz.runUnderlying117 Tryz.sizeOf60 Tryz.zeroValue60 (parts2 (ev (v:=.agg #[.bool bN,.slice pN nN cN]) rfl hv10) (ev (v:=.agg #[.bool (ng D),.slice pD nD cD]) rfl hv11)) rfl (by decide) fill2 ⟨_,_,rfl,⟨_,rfl,rfl⟩,New.blk _ _ _⟩⟩
       refine stT rfl (fun hT hS=>?_) ?_
       ·obtain ⟨hv9,hr9⟩:=hT 9 78 rfl rfl
        obtain ⟨g31,hv12,hr12⟩:=(hT 12 81 rfl rfl:(Slb [.bool bN,.slice pN nN cN,.bool (ng D),.slice pD nD cD] 60 2) _ _)
        obtain hS:=hS.flat2 hr9 hr12
        exact .inl ⟨want_on (e:=78) rfl rfl rfl hv9,oCl rfl rfl Tryz.call64 rfl ((wzGcd_two (hS.blkAt 14 rfl) ((show Zr _ _ _ _ _ N 2097152 from ⟨_,hS.rdAt 2 rfl,hvN,hnN⟩).mono (by omega)) (((hS.sl 7 rfl).zr hkD).mono (by omega)) hkN hkD hz11)) (ar1 (ev rfl hv12)) cNw⟩
       refine stC rfl (fun _ _ _ _ _ ho hT hS _=>?_) ?_
       ·obtain ⟨hv9,hr9⟩:=hT 9 78 rfl rfl
        obtain hS:=hS.flat1 hr9
        exact .inl ⟨want_on (e:=78) rfl rfl rfl hv9,oLd aggZ hS 0 rfl rfl (ev rfl (ho 17 rfl)) rfl rfl rfl ⟨_,_,rfl,isI,New.same _⟩⟩
       refine stT rfl (fun hT hS=>?_) ?_
       ·obtain ⟨hv9,hr9⟩:=hT 9 78 rfl rfl
        obtain ⟨p11,n11,c11,hv13,hr13⟩:=(hT 13 82 rfl rfl:(Zt z11) _ _)
        obtain ⟨hv14,hr14⟩:=hT 14 83 rfl rfl
        obtain hS:=hS.flat3 hr9 hr13 hr14
        exact .inl ⟨want_on (e:=78) rfl rfl rfl hv9,oCl rfl rfl Tryz.call58 rfl (wzcmp (((hS.sl 14 rfl).zr hk11).mono (by omega)) (((hS.sl 1 rfl).zr hk8).mono (by omega)) hs12) (ar2 (ev rfl hv13) (ev rfl hv14)) cNw⟩
       refine stT rfl (fun hT hS=>?_) ?_
       ·obtain ⟨hv9,hr9⟩:=hT 9 78 rfl rfl
        obtain ⟨hv15,hr15⟩:=hT 15 84 rfl rfl
        obtain hS:=hS.flat2 hr9 hr15
        exact .inl ⟨want_on (e:=78) rfl rfl rfl hv9,obin (z:=.bool false) rfl rfl (ev rfl hv15) evc (bNe (cmpZ_neF hs12 (by rw [← hz11.out,hg1]; rfl))) ⟨_,_,rfl,isI,New.same _⟩⟩
       refine stT rfl (fun hT hS=>?_) ?_
       ·obtain ⟨hv9,hr9⟩:=hT 9 78 rfl rfl
        obtain ⟨hv16,hr16⟩:=hT 16 85 rfl rfl
        obtain hS:=hS.flat2 hr9 hr16
        exact inNo rfl (opick rfl rfl (ev rfl hv9) (ev rfl hv16) (nSm rfl isI))
       refine stT rfl (fun hT hS=>?_) ?_
       ·obtain ⟨hv17,hr17⟩:=hT 17 86 rfl rfl
        obtain hS:=hS.flat1 hr17
        exact inNo rfl (omove rfl rfl (ev rfl hv17) (nSm rfl isI))
       refine stC rfl (fun _ _ _ _ _ ho hT hS _=>?_) ?_
       ·obtain ⟨hv18,hr18⟩:=hT 18 87 rfl rfl
        obtain hS:=hS.flat1 hr18
        exact .inl ⟨want_on (e:=87) rfl rfl rfl hv18,oLd aggZ hS 5 rfl rfl (ev rfl (ho 12 rfl)) rfl rfl rfl ⟨_,_,rfl,isI,New.same _⟩⟩
       refine stC rfl (fun _ _ _ _ _ ho hT hS _=>?_) ?_
       ·obtain ⟨hv18,hr18⟩:=hT 18 87 rfl rfl
        obtain hS:=hS.flat1 hr18
        exact .inl ⟨want_on (e:=87) rfl rfl rfl hv18,omove rfl rfl (ev rfl (ho 1 rfl)) ⟨_,_,rfl,isI,New.same _⟩⟩
       refine stT rfl (fun hT hS=>?_) ?_
       ·obtain ⟨hv18,hr18⟩:=hT 18 87 rfl rfl
        obtain ⟨hv20,hr20⟩:=hT 20 89 rfl rfl
        obtain hS:=hS.flat2 hr18 hr20
        exact .inl ⟨want_on (e:=87) rfl rfl rfl hv18,obuild (ps:=#[(1,.slice pm nm cm)]) (v:=.agg #[.bool false,.slice pm nm cm]) rfl rfl (parts1 (ev rfl hv20)) (fun w => by simp [go_sem,Instr.build,Instr.fill]) ⟨_,_,rfl,isI,New.same _⟩⟩
       refine stT rfl (fun hT hS=>?_) ?_
       ·obtain ⟨hv18,hr18⟩:=hT 18 87 rfl rfl
        obtain ⟨hv19,hr19⟩:=hT 19 88 rfl rfl
        obtain ⟨hv21,hr21⟩:=hT 21 90 rfl rfl
        obtain hS:=hS.flat3 hr18 hr19 hr21
        exact .inl ⟨want_on (e:=87) rfl rfl rfl hv18,obsliceN (ps:=#[(0,.agg #[.bool (ng D),.slice pD nD cD]),(1,.agg #[.bool false,.slice pm nm cm])]) (z:=.agg #[.bool false,.slice none 0 0]) [.bool (ng D),.slice pD nD cD,.bool false,.slice pm nm cm] rfl rfl Tryz.runUnderlying117 Tryz.sizeOf60 Tryz.zeroValue60 (parts2 (ev (v:=.agg #[.bool (ng D),.slice pD nD cD]) rfl hv19) (ev (v:=.agg #[.bool false,.slice pm nm cm]) rfl hv21)) rfl (by decide) fill2 ⟨_,_,rfl,⟨_,rfl,rfl⟩,New.blk _ _ _⟩⟩
       refine stT rfl (fun hT hS=>?_) ?_
       ·obtain ⟨hv18,hr18⟩:=hT 18 87 rfl rfl
        obtain ⟨g32,hv22,hr22⟩:=(hT 22 91 rfl rfl:(Slb [.bool (ng D),.slice pD nD cD,.bool false,.slice pm nm cm] 60 2) _ _)
        obtain hS:=hS.flat2 hr18 hr22
        exact .inl ⟨want_on (e:=87) rfl rfl rfl hv18,oCl rfl rfl Tryz.call64 rfl ((wzGcd_two (hS.blkAt 14 rfl) (((hS.sl 7 rfl).zr hkD).mono (by omega)) ((hzm.at hS).mono (by omega)) hkD hzm.wd hz13)) (ar1 (ev rfl hv22)) cNw⟩
       refine stC rfl (fun _ _ _ _ _ ho hT hS _=>?_) ?_
       ·obtain ⟨hv18,hr18⟩:=hT 18 87 rfl rfl
        obtain hS:=hS.flat1 hr18
        exact .inl ⟨want_on (e:=87) rfl rfl rfl hv18,oLd aggZ hS 0 rfl rfl (ev rfl (ho 17 rfl)) rfl rfl rfl ⟨_,_,rfl,isI,New.same _⟩⟩
       refine stT rfl (fun hT hS=>?_) ?_
       ·obtain ⟨hv18,hr18⟩:=hT 18 87 rfl rfl
        obtain ⟨p13,n13,c13,hv23,hr23⟩:=(hT 23 92 rfl rfl:(Zt z13) _ _)
        obtain ⟨hv24,hr24⟩:=hT 24 93 rfl rfl
        obtain hS:=hS.flat3 hr18 hr23 hr24
        exact .inl ⟨want_on (e:=87) rfl rfl rfl hv18,oCl rfl rfl Tryz.call58 rfl (wzcmp (((hS.sl 14 rfl).zr hk13).mono (by omega)) (((hS.sl 1 rfl).zr hk8).mono (by omega)) hs14) (ar2 (ev rfl hv23) (ev rfl hv24)) cNw⟩
       refine stT rfl (fun hT hS=>?_) ?_
       ·obtain ⟨hv18,hr18⟩:=hT 18 87 rfl rfl
        obtain ⟨hv25,hr25⟩:=hT 25 94 rfl rfl
        obtain hS:=hS.flat2 hr18 hr25
        exact .inl ⟨want_on (e:=87) rfl rfl rfl hv18,obin (z:=.bool false) rfl rfl (ev rfl hv25) evc (bNe (cmpZ_neF hs14 (by rw [← hz13.out,hg2]; rfl))) ⟨_,_,rfl,isI,New.same _⟩⟩
       refine stT rfl (fun hT hS=>?_) ?_
       ·obtain ⟨hv18,hr18⟩:=hT 18 87 rfl rfl
        obtain ⟨hv26,hr26⟩:=hT 26 95 rfl rfl
        obtain hS:=hS.flat2 hr18 hr26
        exact inNo rfl (opick rfl rfl (ev rfl hv18) (ev rfl hv26) (nSm rfl isI))
       exact sNi
      intro vs ρ w33 f' hf hT hS
      obtain ⟨hv0,hr0⟩:=hT 0 (by decide)
      obtain ⟨hv1,hr1⟩:=hT 1 (by decide)
      obtain ⟨hv2,hr2⟩:=hT 2 (by decide)
      obtain ⟨hv3,hr3⟩:=hT 3 (by decide)
      obtain ⟨hv4,hr4⟩:=hT 4 (by decide)
      obtain ⟨hv5,hr5⟩:=hT 5 (by decide)
      obtain ⟨hv6,hr6⟩:=hT 6 (by decide)
      obtain ⟨hv7,hr7⟩:=hT 7 (by decide)
      obtain ⟨hv8,hr8⟩:=hT 8 (by decide)
      obtain ⟨hv9,hr9⟩:=hT 9 (by decide)
      obtain ⟨hv10,hr10⟩:=hT 10 (by decide)
      obtain ⟨hv11,hr11⟩:=hT 11 (by decide)
      obtain ⟨g31,hv12,hr12⟩:=(hT 12 (by decide):(Slb [.bool bN,.slice pN nN cN,.bool (ng D),.slice pD nD cD] 60 2) _ _)
      obtain ⟨p11,n11,c11,hv13,hr13⟩:=(hT 13 (by decide):(Zt z11) _ _)
      obtain ⟨hv14,hr14⟩:=hT 14 (by decide)
      obtain ⟨hv15,hr15⟩:=hT 15 (by decide)
      obtain ⟨hv16,hr16⟩:=hT 16 (by decide)
      obtain ⟨hv17,hr17⟩:=hT 17 (by decide)
      obtain ⟨hv18,hr18⟩:=hT 18 (by decide)
      obtain ⟨hv19,hr19⟩:=hT 19 (by decide)
      obtain ⟨hv20,hr20⟩:=hT 20 (by decide)
      obtain ⟨hv21,hr21⟩:=hT 21 (by decide)
      obtain ⟨g32,hv22,hr22⟩:=(hT 22 (by decide):(Slb [.bool (ng D),.slice pD nD cD,.bool false,.slice pm nm cm] 60 2) _ _)
      obtain ⟨p13,n13,c13,hv23,hr23⟩:=(hT 23 (by decide):(Zt z13) _ _)
      obtain ⟨hv24,hr24⟩:=hT 24 (by decide)
      obtain ⟨hv25,hr25⟩:=hT 25 (by decide)
      obtain ⟨hv26,hr26⟩:=hT 26 (by decide)
      obtain ⟨hv27,hr27⟩:=hT 27 (by decide)
      simp only [pool,if_true,hr0,hr1,hr2,hr3,hr4,hr5,hr6,hr7,hr8,hr9,hr10,hr11,hr12,hr13,hr14,hr15,hr16,hr17,hr18,hr19,hr20,hr21,hr22,hr23,hr24,hr25,hr26,hr27,List.nil_append,List.cons_append,List.append_nil] at hS
      simp only [layf,hv0,hv1,hv2,hv3,hv4,hv5,hv6,hv7,hv8,hv9,hv10,hv11,hv12,hv13,hv14,hv15,hv16,hv17,hv18,hv19,hv20,hv21,hv22,hv23,hv24,hv25,hv26,hv27] at hf
      subst hf; clear hT hv0 hv1 hv2 hv3 hv4 hv5 hv6 hv7 hv8 hv9 hv10 hv11 hv12 hv13 hv14 hv15 hv16 hv17 hv18 hv19 hv20 hv21 hv22 hv23 hv24 hv25 hv26 hv27 hr0 hr1 hr2 hr3 hr4 hr5 hr6 hr7 hr8 hr9 hr10 hr11 hr12 hr13 hr14 hr15 hr16 hr17 hr18 hr19 hr20 hr21 hr22 hr23 hr24 hr25 hr26 hr27
      refine wdone rfl ?_
      refine tNo ?_
      refine wF (ev rfl rfl) ?_
      refine wSk (tNo (wSq ?_))
      obtain ⟨z15,hz15⟩:∃ z:Int,Hid (N = z):=⟨_,rfl⟩
      have hk15:Wd z15 2097152:=Wd.same hkN hz15
      refine wSg 4 [98,99,100,101] [[],[0],[],[1,2,0]] [[],[],[],[1]] [] [] (fun i9 => ([iSv (.agg #[.bool bN,.slice pN nN cN]),fun _ => Zt z15,iSv (.agg #[.bool (ng D),.slice pD nD cD]),fun us => Is (.agg #[.bool (ng z15),(vat (us.getD 0 undef) [1]),.bool (ng D),.slice pD nD cD])]:List (List Value → Tell)).getD i9 (fun _ _ _ => False)) hNi (fun d _ _ _ _ h => (by cases d <;> exact h)) (by kernel_rfl) (by kernel_rfl) (by kernel_rfl) hS ?_ ?_
      ·
       refine stH rfl (fun ho hS=>?_) ?_
       ·exact inNo rfl (oLd aggZ hS 13 rfl rfl (ev rfl (ho 10 rfl)) rfl rfl rfl (nSm rfl isI))
       refine stT rfl (fun hT hS=>?_) ?_
       ·obtain ⟨hv0,hr0⟩:=hT 0 98 rfl rfl
        obtain hS:=hS.flat1 hr0
        exact .inl ⟨wNo rfl,oCl rfl rfl Tryz.call65 rfl (wznorm ((show Zr _ _ _ _ _ N 2097152 from ⟨_,hS.rdAt 6 rfl,hvN,hnN⟩).mono (by omega)) hz15) (ar1 (ev rfl hv0)) cNw⟩
       refine stH rfl (fun ho hS=>?_) ?_
       ·exact inNo rfl (oLd aggZ hS 9 rfl rfl (ev rfl (ho 12 rfl)) rfl rfl rfl (nSm rfl isI))
       refine stC rfl (fun _ f' _ _ _ _ hT hS _=>?_) ?_
       ·obtain ⟨p15,n15,c15,hv1,hr1⟩:=(hT 1 99 rfl rfl:(Zt z15) _ _)
        obtain ⟨hv2,hr2⟩:=hT 2 100 rfl rfl
        obtain hS:=hS.flat2 hr1 hr2
        have hQ:(.agg #[.bool (ng z15),.slice p15 n15 c15,.bool (ng D),.slice pD nD cD]:Value) = (fun (us:List Value) => (.agg #[.bool (ng z15),(vat (us.getD 0 undef) [1]),.bool (ng D),.slice pD nD cD]:Value)) [f' 99]:=by show _ = (.agg #[.bool (ng z15),(vat (f' 99) [1]),.bool (ng D),.slice pD nD cD]:Value); rw [hv1]; rfl
        exact .inl ⟨wNo rfl,obuild (ps:=#[(0,.agg #[.bool (ng z15),.slice p15 n15 c15]),(1,.agg #[.bool (ng D),.slice pD nD cD])]) (v:=.agg #[.bool (ng z15),.slice p15 n15 c15,.bool (ng D),.slice pD nD cD]) rfl rfl (parts2 (ev rfl hv1) (ev rfl hv2)) (fun w => by simp [go_sem,Instr.build,Instr.fill]) ⟨_,_,rfl,⟨hQ,rfl⟩,New.same _⟩⟩
       exact sNi
      intro vs ρ w34 f' hf hT hS
      obtain ⟨hv0,hr0⟩:=hT 0 (by decide)
      obtain ⟨p15,n15,c15,hv1,hr1⟩:=(hT 1 (by decide):(Zt z15) _ _)
      obtain ⟨hv2,hr2⟩:=hT 2 (by decide)
      obtain ⟨hv3,hr3⟩:=(hT 3 (by decide):(fun (us:List Value) => Is (.agg #[.bool (ng z15),(vat (us.getD 0 undef) [1]),.bool (ng D),.slice pD nD cD])) [vs 1] _ _)
      replace hv3:vs 3 = .agg #[.bool (ng z15),.slice p15 n15 c15,.bool (ng D),.slice pD nD cD]:=hv3.trans (by show (.agg #[.bool (ng z15),(vat (vs 1) [1]),.bool (ng D),.slice pD nD cD]:Value) = _; rw [hv1]; rfl)
      simp only [pool,if_true,hr0,hr1,hr2,hr3,List.nil_append,List.cons_append,List.append_nil] at hS
      simp only [layf,hv0,hv1,hv2,hv3] at hf
      subst hf; clear hT hv0 hv1 hv2 hv3 hr0 hr1 hr2 hr3
      refine wLt 4 rfl (by kernel_rfl) (oSt _ _ Tryz.sizeOf76 hS 18 rfl rfl (ev rfl rfl) (ev rfl rfl) rfl rfl rfl rfl rfl rfl ?_)
      clear hS; intro w35 hS
      refine ⟨hNi,?_⟩
      refine wLt 5 rfl (by kernel_rfl) (oassign rfl rfl evc ?_)
      refine ⟨hNi,?_⟩
      refine wdone rfl ?_
      refine tNo ?_
      refine wLv ?_
      have hgood:=rce_0 hvm hbm hN hd0 (by omega) hg1 hg2
      refine wret2 Tryz.results35 (tellC (cs:=[.bool (ng z15),.slice p15 n15 c15,.bool (ng D),.slice pD nD cD]) aggR hS 18 rfl rfl rfl rfl) (tlT (v:=.int .i64 0) rfl rfl) ?_
      have hq9:=hz15.out
      subst hq9
      exact ⟨_,_,rfl,by rw [hgood.2.1,hgood.2.2]; exact ⟨_,_,_,_,_,_,rfl,rfl⟩,hS.new2 0 12 rfl rfl⟩
     have hcode:=rce_61 hvm hbm hN (.inr (.inr (.inr hg2)))
     exact absurd h0 (by rw [hcode]; decide)
    have hcode:=rce_61 hvm hbm hN (.inr (.inr (.inl hg1)))
    exact absurd h0 (by rw [hcode]; decide)
   refine wbc (z:=.bool true) rfl rfl (bin_gtr (cmpZ_gtT hs7 (by omega))) ?_
   refine wn1 ?_
   refine wT (ev rfl rfl) ?_
   refine wSk (tNo (wBk (wsr (wl rfl (oLd aggZ hS 8 rfl rfl (ev rfl rfl) rfl rfl rfl ?_)))))
   refine wl rfl (oLd aggZ hS 7 rfl rfl (ev rfl rfl) rfl rfl rfl ?_)
   obtain ⟨z8,hz8⟩:∃ z:Int,Hid (ra / rb = z):=⟨_,rfl⟩
   have hk8:Wd z8 2097152:=Wd.ediv hkra hz8
   obtain ⟨z9,hz9⟩:∃ z:Int,Hid (ra % rb = z):=⟨_,rfl⟩
   have hk9:Wd z9 2097152:=Wd.emod hkrb (by omega) hz9
   refine wcl Tryz.call59 (wzeuclid ((show Zr _ _ _ _ _ ra 2097152 from ⟨_,hS.rdAt 1 rfl,hvra,hnra⟩).mono (by omega)) ((show Zr _ _ _ _ _ rb 2097152 from ⟨_,hS.rdAt 0 rfl,hvrb,hnrb⟩).mono (by omega)) (by omega) hz8 hz9) (ar2 (ev rfl rfl) (ev rfl rfl)) hS ?_
   clear hS; rintro _ _ w26 ⟨p8,n8,c8,p9,n9,c9,rfl,rfl⟩ hS
   refine wmv rfl rfl ?_
   refine wl rfl (oEx rfl rfl (ev rfl rfl) rfl ?_)
   refine wl rfl (oEx rfl rfl (ev rfl rfl) rfl ?_)
   refine wl rfl (oEx rfl rfl (ev rfl rfl) rfl ?_)
   refine wl rfl (oAl [.bool false,.slice none 0 0] hS rfl rfl Tryz.zeroValue60 rfl ?_)
   clear hS; intro g27 w28 hS
   refine wl rfl (oAl [.bool false,.slice none 0 0] hS rfl rfl Tryz.zeroValue60 rfl ?_)
   clear hS; intro g29 w30 hS
   refine wl rfl (oSt _ _ Tryz.sizeOf60 hS 1 rfl rfl (ev rfl rfl) (ev rfl rfl) rfl rfl rfl rfl rfl rfl ?_)
   clear hS; intro w31 hS
   refine wl rfl (oSt _ _ Tryz.sizeOf60 hS 0 rfl rfl (ev rfl rfl) (ev rfl rfl) rfl rfl rfl rfl rfl rfl ?_)
   clear hS; intro w32 hS
   refine wav rfl rfl ?_
   refine wn1 (wSq ?_)
   refine wSg 2 [53,54] [[],[]] [] [1] [(g29,[.bool (ng z9),.slice p9 n9 c9],60)] (fun i9 => ([iSv (.agg #[.bool brb,.slice prb nrb crb]),iSv (.agg #[.bool (ng z9),.slice p9 n9 c9])]:List (List Value → Tell)).getD i9 (fun _ _ _ => False)) ((heldCons (hS.blkAt 0 rfl) hNi)) (fun d _ _ _ _ h => (by cases d <;> exact h)) (by kernel_rfl) (by kernel_rfl) (by kernel_rfl) hS ?_ ?_
   ·
    refine stH rfl (fun ho hS=>?_) ?_
    ·exact inNo rfl (oLd aggZ hS 11 rfl rfl (ev rfl (ho 10 rfl)) rfl rfl rfl (nSm rfl isI))
    refine stepsPure rfl ?_ ?_
    ·intro f' ρ ho hT
     exact ⟨_,.inl ⟨wNo rfl,fun w hw => yload (vs:=[.bool (ng z9),.slice p9 n9 c9]) aggZ rfl (ev rfl (ho 15 rfl)) (hw.at 0 rfl) rfl rfl⟩,isI⟩
    exact sNi
   intro vs ρ w33 f' hf hT hS
   obtain ⟨hv0,hr0⟩:=hT 0 (by decide)
   obtain ⟨hv1,hr1⟩:=hT 1 (by decide)
   simp only [pool,if_true,hr0,hr1,List.nil_append,List.cons_append,List.append_nil] at hS
   simp only [layf,hv0,hv1] at hf
   subst hf; clear hT hv0 hv1 hr0 hr1
   refine wLt 2 rfl (by kernel_rfl) (oSt _ _ Tryz.sizeOf60 hS 12 rfl rfl (ev rfl rfl) (ev rfl rfl) rfl rfl rfl rfl rfl rfl ?_)
   clear hS; intro w34 hS
   refine ⟨(heldCons (hS.blkAt 0 rfl) hNi),?_⟩
   refine wLt 3 rfl (by kernel_rfl) (oSt _ _ Tryz.sizeOf60 hS 11 rfl rfl (ev rfl rfl) (ev rfl rfl) rfl rfl rfl rfl rfl rfl ?_)
   clear hS; intro w35 hS
   refine ⟨(heldCons (hS.blkAt 0 rfl) hNi),?_⟩
   refine wdone rfl ?_
   refine tNo ?_
   obtain ⟨z10,hz10⟩:∃ z:Int,Hid (z8 * xb = z):=⟨_,rfl⟩
   have hk10:Wd z10 4194304:=Wd.mul hk8 hkxb hz10 (by omega)
   obtain ⟨z11,hz11⟩:∃ z:Int,Hid (xa - z10 = z):=⟨_,rfl⟩
   have hk11:Wd z11 4194305:=Wd.sub hkxa hk10 hz11 (by omega)
   refine wSg 6 [55,56,57,58,59,60] [[],[],[],[],[2,3],[1,4,2,3]] [] [] [] (fun i9 => ([iSv (.agg #[.bool (ng xb),.slice pxb nxb cxb]),iSv (.agg #[.bool (ng xa),.slice pxa nxa cxa]),iSv (.agg #[.bool (ng z8),.slice p8 n8 c8]),iSv (.agg #[.bool (ng xb),.slice pxb nxb cxb]),fun _ => Zt z10,fun _ => Zt z11]:List (List Value → Tell)).getD i9 (fun _ _ _ => False)) hNi (fun d _ _ _ _ h => (by cases d <;> exact h)) (by kernel_rfl) (by kernel_rfl) (by kernel_rfl) hS ?_ ?_
   ·
    refine stH rfl (fun ho hS=>?_) ?_
    ·exact inNo rfl (oLd aggZ hS 7 rfl rfl (ev rfl (ho 12 rfl)) rfl rfl rfl (nSm rfl isI))
    refine stH rfl (fun ho hS=>?_) ?_
    ·exact inNo rfl (oLd aggZ hS 8 rfl rfl (ev rfl (ho 11 rfl)) rfl rfl rfl (nSm rfl isI))
    refine stH rfl (fun ho hS=>?_) ?_
    ·exact inNo rfl (oLd aggZ hS 1 rfl rfl (ev rfl (ho 14 rfl)) rfl rfl rfl (nSm rfl isI))
    refine stH rfl (fun ho hS=>?_) ?_
    ·exact inNo rfl (oLd aggZ hS 7 rfl rfl (ev rfl (ho 12 rfl)) rfl rfl rfl (nSm rfl isI))
    refine stT rfl (fun hT hS=>?_) ?_
    ·obtain ⟨hv2,hr2⟩:=hT 2 57 rfl rfl
     obtain ⟨hv3,hr3⟩:=hT 3 58 rfl rfl
     obtain hS:=hS.flat2 hr2 hr3
     exact .inl ⟨wNo rfl,oCl rfl rfl Tryz.call61 rfl (wzmul (((hS.sl 2 rfl).zr hk8).mono (by omega)) (((hS.sl 9 rfl).zr hkxb).mono (by omega)) hz10) (ar2 (ev rfl hv2) (ev rfl hv3)) cNw⟩
    refine stT rfl (fun hT hS=>?_) ?_
    ·obtain ⟨hv1,hr1⟩:=hT 1 56 rfl rfl
     obtain ⟨p10,n10,c10,hv4,hr4⟩:=(hT 4 59 rfl rfl:(Zt z10) _ _)
     obtain hS:=hS.flat2 hr1 hr4
     exact .inl ⟨wNo rfl,oCl rfl rfl Tryz.call60 rfl (wzsub (((hS.sl 10 rfl).zr hkxa).mono (by omega)) (((hS.sl 16 rfl).zr hk10).mono (by omega)) hz11) (ar2 (ev rfl hv1) (ev rfl hv4)) cNw⟩
    exact sNi
   intro vs ρ w36 f' hf hT hS
   obtain ⟨hv0,hr0⟩:=hT 0 (by decide)
   obtain ⟨hv1,hr1⟩:=hT 1 (by decide)
   obtain ⟨hv2,hr2⟩:=hT 2 (by decide)
   obtain ⟨hv3,hr3⟩:=hT 3 (by decide)
   obtain ⟨p10,n10,c10,hv4,hr4⟩:=(hT 4 (by decide):(Zt z10) _ _)
   obtain ⟨p11,n11,c11,hv5,hr5⟩:=(hT 5 (by decide):(Zt z11) _ _)
   simp only [pool,if_true,hr0,hr1,hr2,hr3,hr4,hr5,List.nil_append,List.cons_append,List.append_nil] at hS
   simp only [layf,hv0,hv1,hv2,hv3,hv4,hv5] at hf
   subst hf; clear hT hv0 hv1 hv2 hv3 hv4 hv5 hr0 hr1 hr2 hr3 hr4 hr5
   refine wLt 6 rfl (by kernel_rfl) (oSt _ _ Tryz.sizeOf60 hS 10 rfl rfl (ev rfl rfl) (ev rfl rfl) rfl rfl rfl rfl rfl rfl ?_)
   clear hS; intro w37 hS
   refine ⟨hNi,?_⟩
   refine wLt 7 rfl (by kernel_rfl) (oSt _ _ Tryz.sizeOf60 hS 9 rfl rfl (ev rfl rfl) (ev rfl rfl) rfl rfl rfl rfl rfl rfl ?_)
   clear hS; intro w38 hS
   refine ⟨hNi,?_⟩
   refine wdone rfl ?_
   refine blkN (tNo ?_)
   obtain ⟨hst2,hlt⟩:=Steps3.nextE (by omega) hst (by omega) hz8 hz9 hz10 hz11
   have hln9:n9 ≤ 2097152:=by rw [(hS.sl 5 rfl).lln]; exact hk9.mono (by omega)
   replace hS:=hS.asRd 5 rfl
   exact ⟨z9.natAbs,⟨_,rb,z9,xb,z11,_,_,_,_,_,_,_,_,_,_,_,_,_,_,brb,ng z9,aSs ⟨rfl,rfl,rfl,rfl,rfl,rfl,rfl,rfl,trivial⟩,hS.pick [5,6,8,9,10,0,11,13,14,15,16,17] (by decide) rfl,hst2,rgo_step (by omega) hle hT hz8 hz9 hz10 hz11,rfl,(hkrb).mono (by omega),(hk9).mono (by omega),(hkxb).mono (by omega),hzm.wd.abs hst2.b1,hvrb,hnrb,(by rw [vLm,zv_ng]),hln9⟩,by omega⟩
  have hcode:rce v m b = 1:=rce_1 (by omega)
  exact absurd h0 (by rw [hcode]; decide)
 have hcode:rce v m b = 1:=rce_1 (by omega)
 exact absurd h0 (by rw [hcode]; decide)
end Go.Proofs.YtjnpdpcldmjdjaaGreatDoor
