/-
  Contracts and lemmas, joined in one text.
-/
import Derived.Test.YtnlnibngpeempaaGreatDoorBA
import Derived.Test.YtnlnibngpeempaaGreatDoorWB
import Derived.Test.YtnlnibngpeempaaGreatDoorWA
import Derived.Scope
set_option linter.unusedVariables false
set_option linter.unusedSimpArgs false
/-
  The lowest bit that is 1; math/bits' TrailingZeros32 over its table.
-/
set_option maxRecDepth 100000
set_option maxHeartbeats 16000000
namespace Go.Proofs.YtnlnibngpeempaaGreatDoor
theorem odd_bit (m j:Nat):(2 * m + 1).testBit j = (match j with | 0 => true | j + 1 => m.testBit j):=by
 cases j with
 | zero => simp
 | succ j =>
  rw [Nat.testBit_succ]
  congr 1
  omega
theorem low_bit {x n k m:Nat} (hx:x = 2 ^ k * (2 * m + 1)) (hn:x < 2 ^ n):x &&& (2 ^ n - x) = 2 ^ k:=by
 have hkn:k < n:=by
  rcases Nat.lt_or_ge k n with h | h
  ·exact h
  exfalso
  have h1:2 ^ n ≤ 2 ^ k:=Nat.pow_le_pow_right (by omega) h
  have h2:2 ^ k ≤ 2 ^ k * (2 * m + 1):=Nat.le_mul_of_pos_right _ (by omega)
  omega
 obtain ⟨d,rfl⟩:∃ d,n = k + (d + 1):=⟨n - k - 1,by omega⟩
 have hm:m < 2 ^ d:=by
  rw [hx,Nat.pow_add] at hn
  have:=Nat.lt_of_mul_lt_mul_left hn
  rw [Nat.pow_succ] at this
  omega
 have e:2 ^ (k + (d + 1)) - x = 2 ^ k * (2 * (2 ^ d - (m + 1)) + 1):=by
  rw [hx,Nat.pow_add, ← Nat.mul_sub,Nat.pow_succ]
  congr 1
  omega
 rw [e,hx]
 apply Nat.eq_of_testBit_eq
 intro i
 rw [Nat.testBit_and,Nat.testBit_two_pow_mul,Nat.testBit_two_pow_mul,Nat.testBit_two_pow]
 by_cases hi:k ≤ i
 ·obtain ⟨j,rfl⟩:∃ j,i = k + j:=⟨i - k,by omega⟩
  rw [Nat.add_sub_cancel_left,odd_bit,odd_bit]
  cases j with
  | zero => simp
  | succ j =>
   simp only [Nat.testBit_two_pow_sub_succ hm]
   have:¬ k = k + (j + 1):=by omega
   cases h:m.testBit j <;> simp [h,this]
 have:¬ k = i:=by omega
 simp [hi,this]
theorem odd_part:∀ (x:Nat),0 < x → ∃ k m,x = 2 ^ k * (2 * m + 1):=by
 intro x
 induction x using Nat.strongRecOn with
 | _ x ih =>
  intro h
  rcases Nat.mod_two_eq_zero_or_one x with h2 | h2
  ·obtain ⟨k,m,e⟩:=ih (x / 2) (by omega) (by omega)
   refine ⟨k + 1,m,?_⟩
   rw [Nat.pow_succ,Nat.mul_right_comm, ← e]; omega
  exact ⟨0,x / 2,by rw [Nat.pow_zero,Nat.one_mul]; omega⟩
def deb:List Nat:=[0,1,28,2,29,14,24,3,30,22,20,15,25,17,4,8,31,27,13,23,21,19,16,7,26,12,18,6,11,5,10,9]
theorem deb_at:∀ k,k < 32 → deb[(2 ^ k * 125613361) % 4294967296 / 2 ^ 27]? = some k:=by decide
open Go.RowKit
section
variable {P:Program} {o:Oper} {n:Nat} {f:Nat → Value} {w w0:World} {R:List Res} {K:Act → World → Prop} {Q:Exit → Act → World → Prop} {d:Nat}
theorem evg {g:Nat}:(act n f).eval (.global g) = .pointer (some ⟨g,0,none⟩):=rfl
theorem oindexA {t e:TypeId} {x i:Operand} {ki:IntKind} {g off m k sz j:Nat} (hop:o.op = .indexAddr t x i) (ho:o.dst = some d) (ht:∀ w,(underlying t).run P w = .ok (.array m e) w) (hs:∀ w,(sizeOf e).run P w = .ok sz w)
  (hx:(act n f).eval x = .pointer (some ⟨g,off,none⟩)) (hi:(act n f).eval i = .int ki (k:Int)) (hk:k < m) (hj:off + k * sz = j)
  (hK:K (act n (upd f d (.pointer (some ⟨g,j,none⟩)))) w):OW P o (act n f) w K Q:=by
 subst hj
 refine oval ho ?_ rfl hK
 have e:(⟨g,off,none⟩:Addr).add (k * sz) = ⟨g,off + k * sz,none⟩:=Addr.add_mid _ _ _
 have h1:(0:Int) ≤ (k:Int) ∧ (k:Int) < (m:Int):=by omega
 simp [execOp,hop,hx,hi,Instr.indexAt,asIntOf,ht,hs,h1,e,hk,Instr.sureAddr]
theorem bin_and32 {t:TypeId} {x y:Operand} {a b c:Nat} (ha:a < 4294967296) (hb:b < 4294967296) (h:a &&& b = c):(do eqGuard .and t x y (.int .u32 (a:Int)) (.int .u32 (b:Int)); binOp .and t (.int .u32 (a:Int)) (.int .u32 (b:Int)):Sem Value).run P w = .ok (.int .u32 (c:Int)) w:=by
  have e3:(BitVec.ofNat 32 a &&& BitVec.ofNat 32 b).toNat = c:=by rw [BitVec.toNat_and,BitVec.toNat_ofNat,BitVec.toNat_ofNat,Nat.mod_eq_of_lt (by omega),Nat.mod_eq_of_lt (by omega),h]
  have hc:c < 4294967296:=by rw [← h]; exact Nat.lt_of_le_of_lt Nat.and_le_left ha
  have e4:IntKind.u32.wrap (c:Int) = c:=IntWalk.u32_in _ (by omega)
  simp [eqGuard,binOp,Op.intBits,IntKind.bits]
  exact (congrArg (fun z:Nat => IntKind.u32.wrap (z:Int)) e3).trans e4
theorem bin_shr {k k':IntKind} {t:TypeId} {x y:Operand} {a b c:Int} (h0:0 ≤ b) (h:a.fdiv (2 ^ (min b.toNat k.bits)) = c):(do eqGuard .shr t x y (.int k a) (.int k' b); binOp .shr t (.int k a) (.int k' b):Sem Value).run P w = .ok (.int k c) w:=by
  subst h; simp [eqGuard,binOp,Op.shift,show ¬ b < 0 by omega]
end
theorem wrap_u32m {c:Nat} (h:c < 4294967296):IntKind.u32.wrap ((c:Int) - 4294967296) = (c:Int):=by
  simp [IntKind.wrap,IntKind.bits,IntKind.signed]; omega
theorem wrap_u32n (a:Nat):IntKind.u32.wrap ((a:Int) * 125613361) = ((a * 125613361 % 4294967296:Nat):Int):=by
  simp [IntKind.wrap,IntKind.bits,IntKind.signed]
theorem shr27 (a:Nat):((a:Nat):Int).fdiv (2 ^ (min (27:Int).toNat IntKind.u32.bits)) = ((a / 2 ^ 27:Nat):Int):=by
  rw [show min (27:Int).toNat IntKind.u32.bits = 27 from rfl,Int.fdiv_eq_ediv_of_nonneg _ (by decide)]
  rfl
theorem tab_keep {w' w0:World} {R:List Res} (hS:Sep w0 R w') {g j:Nat} {v:Value} (h:w0.cell? ⟨g,j,none⟩ = some v):w'.cell? ⟨g,j,none⟩ = some v:=by
  have hg:g < w0.heap.size:=World.block_lt_of_cell? w0 _ h
  exact (World.cell?_of_block (w:=w0) (hS.below.block g hg)).trans h
def Tab (w:World):Prop := ∀ (j v:Nat),deb[j]? = some v → w.cell? ⟨1,j,none⟩ = some (.int .u8 (v:Int))
theorem Tab.at {w w':World} {R:List Res} (h:Tab w) (hS:Sep w R w'):Tab w':=fun j v hj => tab_keep (w0:=w) hS (h j v hj)
theorem tz_facts {x k m:Nat} (hx:x = 2 ^ k * (2 * m + 1)) (h:x < 4294967296):k < 32 ∧ x ≠ 0 ∧ x &&& (4294967296 - x) = 2 ^ k:=by
  have h0:=low_bit (n:=32) hx (by omega)
  have hk:2 ^ k ≤ x:=by rw [hx]; exact Nat.le_mul_of_pos_right _ (by omega)
  have hp:=Nat.two_pow_pos k
  refine ⟨?_,by omega,h0⟩
  exact (Nat.pow_lt_pow_iff_right (by omega:1 < 2)).1 (show 2 ^ k < 2 ^ 32 by omega)
theorem wtz {x k m:Nat} {w:World} (ht:Tab w) (hx:x = 2 ^ k * (2 * m + 1)) (h:x < 4294967296) :
  Calls Tryz.prog 150 #[.int .u32 (x:Int)] w (Ret (Is (.int .i64 (k:Int))) w):=by
 obtain ⟨hk,h0,hl⟩:=tz_facts hx h
 have hp:2 ^ k < 4294967296:=by have:=Nat.pow_lt_pow_right (a:=2) (by omega) hk; omega
 have hd:=deb_at k hk
 have hj:(2 ^ k * 125613361) % 4294967296 / 2 ^ 27 < 32:=(List.getElem?_eq_some_iff.1 hd).1
 have hS:=Sep.init w
 refine went Tryz.func150 rfl (n:=14) rfl rfl ?_
 refine wsr (wavc ?_)
 refine wn1 (wSq (wsr (wmv rfl rfl ?_)))
 refine wbc (z:=.bool false) rfl rfl (bEq (by simpa using h0)) ?_
 refine wn1 ?_
 refine wF (ev rfl rfl) ?_
 refine wSk (tNo (wsr (wmv rfl rfl ?_)))
 refine wmv rfl rfl ?_
 refine wl rfl (oneg (k:=.u32) (c:=((4294967296 - x:Nat):Int)) rfl rfl (ev rfl rfl) ((by rw [show -(x:Int) = ((4294967296 - x:Nat):Int) - 4294967296 by omega]; exact wrap_u32m (by omega))) ?_)
 refine wbt (z:=.int .u32 ((2 ^ k:Nat):Int)) rfl rfl rfl rfl (bin_and32 h (by omega) hl) ?_
 refine wbc (z:=.int .u32 ((2 ^ k * 125613361 % 4294967296:Nat):Int)) rfl rfl (bin_mul (wrap_u32n _)) ?_
 refine wbc (z:=.int .u32 ((((2 ^ k * 125613361 % 4294967296 / 2 ^ 27):Nat):Int))) rfl rfl (bin_shr (by omega) (shr27 _)) ?_
 refine wl rfl (oindexA (g:=1) (off:=0) (m:=32) (k:=(2 ^ k * 125613361 % 4294967296 / 2 ^ 27)) (j:=(2 ^ k * 125613361 % 4294967296 / 2 ^ 27)) rfl rfl Tryz.runUnderlying177 Tryz.sizeOf5 evg (ev rfl rfl) hj (by simp) ?_)
 refine wl rfl (oLc ⟨Tryz.isAgg5,Tryz.sizeOf5⟩ rfl rfl (ev rfl rfl) (tab_keep (w0:=w) hS (ht _ _ hd)) ?_)
 refine wl rfl (oCv (u:=.int .u8 (k:Int)) (v:=.int .i64 (k:Int)) rfl rfl (ev rfl rfl) (cvI Tryz.runUnderlying5 Tryz.runUnderlying3 (wI6 (by omega) (by omega))) ?_)
 refine wav rfl rfl ?_
 refine wn1 ?_
 refine wLv ?_
 refine wr1 Tryz.results150 (tlT (v:=.int .i64 (k:Int)) rfl rfl) ?_
 exact ⟨_,_,rfl,isI,hS.new0⟩
open Go.RowKit
section
variable {P:Program} {Q:Exit → Act → World → Prop} {a:Act} {w:World}
theorem wscope {c:Code} (h:CW P c (Exit.noGoto Q) a w):CW P (.scope c) Q a w:=⟨wp_scope_straight h.out⟩
theorem wlabel {l:Nat} (h:Q .normal a w):CW P (.label l) Q a w:=⟨wp_label h⟩
theorem scR (h:Q .ret a w):Exit.noGoto Q .ret a w:=h
end
end Go.Proofs.YtnlnibngpeempaaGreatDoor
