/-
  Contracts and lemmas, joined in one text.
-/
import Derived.Test.YtnlnibngpeempaaGreatDoorBA
import Derived.Laws.BitsAllLaws
import Derived.Deep.QuietTactic
import Derived.BigQuiet
import Derived.OwnWalk
import Derived.Deep.RegionHeld3
import Derived.Deep.LoopGhost
set_option linter.unusedVariables false
set_option linter.unusedSimpArgs false
/-
  The walks of nat.trim,nat.own,nat.Norm.
-/
namespace Go.Proofs.YtnlnibngpeempaaGreatDoor
open Go.RowKit
def RetTrim (w:World) (p:Option Addr) (n c:Nat) (N:Nat) (e:Ending) (w':World):Prop :=
  ∃ m,e = .returned (.slice p m c) ∧ Sl w p m c (lim N) ∧ m ≤ n ∧ w = w'
set_option maxHeartbeats 400000 in
theorem trim_any {p:Option Addr} {n c:Nat} {xs:List Nat} {w:World} (hs:Sl w p n c xs) :
  Calls Tryz.prog 82 #[.slice p n c] w (RetTrim w p n c (val xs)):=by
 have HN:=Lib.hid (nrm_eq hs.lims)
 have hn:=hs.le
 have hc:=hs.cap
 unfold maxLen at hc
 have HL:=Lib.hid hs.len
 go_enter Tryz.func82,Tryz.ntmps82
 go_wp2
 go_loop [0] (fun v => ∃ k:Nat,k ≤ n ∧ tl xs k = tl xs n ∧ v = .slice p k c) (fun v => match v with | .slice _ k _ => k | _ => 0)
 case atStart => exact ⟨_,Nat.le_refl _,rfl,rfl⟩
 case round =>
  obtain ⟨k,hk,ht,rfl⟩:=hrel
  have Ht:=Lib.hid ht
  clear ht
  rcases Nat.eq_zero_or_pos k with rfl | hk0
  ·go_wp2
   go_ret
   have e:tl xs xs.length = 0:=by rw [HL.out, ← Ht.out]; rfl
   have e2:=HN.out
   rw [e] at e2
   exact ⟨0,rfl,by rw [← e2]; exact hs.take (Nat.zero_le _),Nat.zero_le _,rfl⟩
  obtain ⟨j,rfl⟩:∃ j,k = j + 1:=⟨k - 1,by omega⟩
  obtain ⟨b,off,rfl,hc1⟩:=hs.cell j (by omega)
  by_cases h0:nd xs j = 0
  ·have hz:((nd xs j:Int) == 0) = true:=by simp [h0]
   have H0:=Lib.hid h0
   clear h0
   go_wp2
   refine ⟨⟨j,by omega,?_,rfl⟩,by simp⟩
   rw [← Ht.out]; simp [tl,H0.out]
  have hz:((nd xs j:Int) == 0) = false:=by simp; omega
  have H0:=Lib.hid h0
  clear h0
  go_wp2
  go_ret
  have e:tl xs xs.length = j + 1:=by rw [HL.out, ← Ht.out]; simp [tl,H0.out]
  have e2:=HN.out
  rw [e] at e2
  exact ⟨j + 1,rfl,by rw [← e2]; exact hs.take hk,hk,rfl⟩
set_option maxHeartbeats 400000 in
theorem own_any {p:Option Addr} {n c:Nat} {xs:List Nat} {w:World} (hs:Sl w p n c xs) (hb:n ≤ 17592186044416) :
  Calls Tryz.prog 78 #[.slice p n c] w (RetN w (lim (val xs))):=by
 go_enter Tryz.func78,Tryz.ntmps78
 go_wp2_with fail
 refine (trim_any hs).mono ?_
 rintro e w' ⟨m,rfl,hm,hmn,rfl⟩
 rcases Nat.eq_zero_or_pos m with rfl | h0
 ·go_wp2_with fail
  go_ret
  have e:lim (val xs) = []:=List.eq_nil_of_length_eq_zero hm.len
  rw [e]
  exact ⟨_,_,_,rfl,Fr.nil _ _,Below.refl _ _⟩
 have hz:((m:Int) == 0) = false:=by simp; omega
 go_wp2_with (at_make; refine wp_make32 _ rfl _ _ _ rfl Tryz.underlying26 _ _ _ _ m rfl rfl rfl rfl (by omega) w.heap.size w (Below.refl _ _) (Nat.le_refl _) ?_; intro w1 hf1 hb1 hb0 hsz1; obtain ⟨w2,hr2,hf2,hb2,hsz2⟩:=run_copy32 26 26 3 Tryz.underlying26 hf1 (hm.below hb1 (Nat.le_refl _)) hb0)
 go_ret
 exact ⟨_,_,_,rfl,hf2,hb2⟩
open Go.RowKit
set_option maxHeartbeats 400000 in
theorem add1_any {x y s:Nat} {cb:Nat} {w:World} {X Y:Int} (hX:X = (x:Int)) (hY:Y = (y:Int)) (hx:x < 4294967296) (hy:y < 4294967296) (hs:s ≤ 1)
  (hc:w.cell? ⟨cb,0,none⟩ = some (.int .u32 (s:Int))) (hf:w.frozen? ⟨cb,0,none⟩ = false) :
  Calls Tryz.prog 84 #[.int .u32 X,.int .u32 Y,.pointer (some ⟨cb,0,none⟩)] w
   fun e w' => e = .returned (.int .u32 (((x + y + s) % 4294967296:Nat):Int)) ∧ w.setCell ⟨cb,0,none⟩ (.int .u32 (((x + y + s) / 4294967296:Nat):Int)) = w':=by
 subst hX
 subst hY
 go_enter Tryz.func84,Tryz.ntmps84
 go_wp2
 go_ret
 exact ⟨rfl,rfl⟩
def RetEach (w0:World) (M:Nat) (T:Nat) (e:Ending) (w':World):Prop :=
 ∃ g L ys s,e = .returned (.slice (some ⟨g,0,none⟩) L (L + 1)) ∧ Fr (w0.heap.size + 1) w' (some ⟨g,0,none⟩) L (L + 1) ys ∧ L ≤ M ∧ Below w0.heap.size w0 w' ∧ w0.heap.size + 1 < w'.heap.size ∧
  w'.cell? ⟨w0.heap.size,0,none⟩ = some (.int .u32 ((s:Nat):Int)) ∧ w'.frozen? ⟨w0.heap.size,0,none⟩ = false ∧ s ≤ 1 ∧ Hid (val ys + s * 4294967296 ^ ys.length = T)
def EachAt (w0 w:World) (L:Nat) (xs ys:List Nat) (k:Nat) (wr:World):Prop :=
 ∃ zs s,Fr w.heap.size wr (some ⟨w.heap.size,0,none⟩) L (L + 1) zs ∧ Below w0.heap.size w0 wr ∧ wr.heap.size = w.heap.size + 1 ∧
  wr.cell? ⟨w0.heap.size,0,none⟩ = some (.int .u32 ((s:Nat):Int)) ∧ wr.frozen? ⟨w0.heap.size,0,none⟩ = false ∧ s ≤ 1 ∧ sm (nd zs) k + s * 4294967296 ^ k = sm (nd xs) k + sm (nd ys) k
theorem each_next {w0 w wr:World} {L k x y s:Nat} {xs ys zs:List Nat} (hcb:w0.heap.size < w.heap.size) (hk:k < L)
  (hfz:Fr w.heap.size wr (some ⟨w.heap.size,0,none⟩) L (L + 1) zs) (hb:Below w0.heap.size w0 wr) (hsz:wr.heap.size = w.heap.size + 1)
  (hc:wr.cell? ⟨w0.heap.size,0,none⟩ = some (.int .u32 ((s:Nat):Int))) (hf:wr.frozen? ⟨w0.heap.size,0,none⟩ = false) (hs:s ≤ 1) (he:sm (nd zs) k + s * 4294967296 ^ k = sm (nd xs) k + sm (nd ys) k)
  (hx:x = nd xs k) (hy:y = nd ys k) (hx2:x < 4294967296) (hy2:y < 4294967296) :
  EachAt w0 w L xs ys (k + 1) ((wr.setCell ⟨w0.heap.size,0,none⟩ (.int .u32 (((x + y + s) / 4294967296:Nat):Int))).setCell ⟨w.heap.size,k,none⟩ (.int .u32 (((x + y + s) % 4294967296:Nat):Int))):=by
 have h1:((wr.setCell ⟨w0.heap.size,0,none⟩ (.int .u32 (((x + y + s) / 4294967296:Nat):Int))).setCell ⟨w.heap.size,k,none⟩ (.int .u32 (((x + y + s) % 4294967296:Nat):Int))).cell? ⟨w0.heap.size,0,none⟩ = some (.int .u32 (((x + y + s) / 4294967296:Nat):Int)):=by
  rw [World.cell?_of_block (w:=wr.setCell ⟨w0.heap.size,0,none⟩ (.int .u32 (((x + y + s) / 4294967296:Nat):Int))) (Below.heap_setCell _ _ _ _ (by simp; omega))]
  exact World.cell?_setCell_same' _ _ _ (by rw [hc]; rfl)
 refine ⟨zs.set k ((x + y + s) % 4294967296),(x + y + s) / 4294967296,Fr.set (hfz.setOther (a:=⟨w0.heap.size,0,none⟩) (by intro g hg; simp at hg; subst hg; simp; omega) _) k (by omega),?_,?_,h1,?_,by omega,?_⟩
 ·exact (hb.setCell (p:=⟨w0.heap.size,0,none⟩) (Nat.le_refl _) _).setCell (p:=⟨w.heap.size,k,none⟩) (by simp; omega) _
 ·simpa using hsz
 ·rw [World.frozen?_setCell,World.frozen?_setCell]; exact hf
 have:=add_step (x:=x) (y:=y) hk hfz.len he
 rw [this]
 rw [hx,hy]
 rfl
set_option maxHeartbeats 1000000 in
theorem eachAdd_any {p q:Option Addr} {n m c d:Nat} {xs ys:List Nat} {w0 w:World} (hx:Sl w0 p n c xs) (hy:Sl w0 q m d ys) {M:Nat} (hn:n ≤ M) (hm:m ≤ M) (hM:M ≤ 17592186044416)
  (hb0:Below w0.heap.size w0 w) (hcb:w0.heap.size < w.heap.size) (hc:w.cell? ⟨w0.heap.size,0,none⟩ = some (.int .u32 0)) (hf:w.frozen? ⟨w0.heap.size,0,none⟩ = false) :
  Calls Tryz.prog 83 #[.slice p n c,.slice q m d,.func (.func 84) #[] #[.pointer (some ⟨w0.heap.size,0,none⟩)]] w (RetEach w0 M (val xs + val ys)):=by
 have hmx:=run_nmax n m
 have hL:=nmax_le n m
 have hL3:=nmax_or n m
 have hL2:=nmax_bd hn hm
 have HX:Hid (sm (nd xs) (nmax n m) = val xs):=val_le (by rw [hx.len]; omega)
 have HY:Hid (sm (nd ys) (nmax n m) = val ys):=val_le (by rw [hy.len]; omega)
 go_enter Tryz.func83,Tryz.ntmps83
 generalize nmax n m = L at *
 go_wp2_with (at_make; refine wp_make32c _ rfl _ _ _ rfl Tryz.underlying26 _ _ _ _ L (L + 1) rfl rfl rfl rfl (Nat.le_succ _) (by omega) w.heap.size w (Below.refl _ _) (Nat.le_refl _) ?_; intro w1 hf1 hb1 hb2 hsz1)
 clear hmx
 have hcell1:=(below_cell hb1).1 w0.heap.size 0 (by omega)
 have hfroz1:=(below_cell hb1).2 w0.heap.size 0 (by omega)
 rw [hc] at hcell1
 rw [hf] at hfroz1
 have H0:EachAt w0 w L xs ys 0 w1:=⟨_,0,hf1,hb0.trans (hb1.mono (by omega)),hsz1,hcell1,hfroz1,by omega,rfl⟩
 clear hcell1 hfroz1 hf1 hb1 hb2 hsz1 hc hf
 go_loopw [23] (fun v wr => ∃ k:Nat,k ≤ L ∧ v = .int .i64 k ∧ EachAt w0 w L xs ys k wr) (fun v _ => L - (intOf v).toNat)
 case atStart => exact ⟨0,by omega,rfl,H0⟩
 case round =>
  clear H0
  obtain ⟨k,hk,rfl,HE⟩:=hrel
  by_cases hkL:k < L
  ·obtain ⟨zs,s,hfz,hbr,hszr,hcr,hfr,hs1,he⟩:=HE
   have HH:=Lib.hid he
   clear he
   have hzc:=hfz.cellAt hkL
   have hzf:=hfz.frozenAt k
   have hx1:=hx.lim1 k
   have hy1:=hy.lim1 k
   have hne1:w.heap.size ≠ w0.heap.size:=by omega
   have hne2:w0.heap.size ≠ w.heap.size:=by omega
   have HS:=Lib.hid hszr
   clear hszr
   rcases Nat.lt_or_ge k n with hkn | hkn
   all_goals rcases Nat.lt_or_ge k m with hkm | hkm
   ·obtain ⟨b1,o1,rfl,hxc⟩:=(hx.below hbr (Nat.le_refl _)).cell k hkn
    obtain ⟨b2,o2,rfl,hyc⟩:=(hy.below hbr (Nat.le_refl _)).cell k hkm
    go_wp2_with (go_at_call 84; refine (add1_any (x:=nd xs k) (y:=nd ys k) rfl rfl hx1 hy1 hs1 hcr hfr).mono ?_; rintro e w' ⟨rfl,rfl⟩)
    exact ⟨⟨k + 1,by omega,by go_num,each_next hcb hkL hfz hbr HS.out hcr hfr hs1 HH.out rfl rfl hx1 hy1⟩,by simp [intOf]; omega⟩
   ·obtain ⟨b1,o1,rfl,hxc⟩:=(hx.below hbr (Nat.le_refl _)).cell k hkn
    obtain ⟨z,hz1,hz2⟩:∃ z,z = nd ys k ∧ (0:Int) = (z:Int):=⟨_,rfl,by rw [nd_lt_len (by rw [hy.len]; exact hkm)]; rfl⟩
    have HZ1:=Lib.hid hz1
    have HZ2:=Lib.hid hz2
    have hz3:z < 4294967296:=by omega
    clear hz1 hz2
    go_wp2_with (go_at_call 84; refine (add1_any (x:=nd xs k) (y:=z) rfl HZ2.out hx1 hz3 hs1 hcr hfr).mono ?_; rintro e w' ⟨rfl,rfl⟩)
    exact ⟨⟨k + 1,by omega,by go_num,each_next hcb hkL hfz hbr HS.out hcr hfr hs1 HH.out rfl HZ1.out hx1 hz3⟩,by simp [intOf]; omega⟩
   ·obtain ⟨b2,o2,rfl,hyc⟩:=(hy.below hbr (Nat.le_refl _)).cell k hkm
    obtain ⟨z,hz1,hz2⟩:∃ z,z = nd xs k ∧ (0:Int) = (z:Int):=⟨_,rfl,by rw [nd_lt_len (by rw [hx.len]; exact hkn)]; rfl⟩
    have HZ1:=Lib.hid hz1
    have HZ2:=Lib.hid hz2
    have hz3:z < 4294967296:=by omega
    clear hz1 hz2
    go_wp2_with (go_at_call 84; refine (add1_any (x:=z) (y:=nd ys k) HZ2.out rfl hz3 hy1 hs1 hcr hfr).mono ?_; rintro e w' ⟨rfl,rfl⟩)
    exact ⟨⟨k + 1,by omega,by go_num,each_next hcb hkL hfz hbr HS.out hcr hfr hs1 HH.out HZ1.out rfl hz3 hy1⟩,by simp [intOf]; omega⟩
   omega
  obtain rfl:k = L:=by omega
  go_wp2_with fail
  go_ret
  obtain ⟨zs,s,hfz,hbr,hszr,hcr,hfr,hs1,he⟩:=HE
  exact ⟨_,k,zs,s,rfl,hfz.mono (by omega),hL2,hbr,by omega,hcr,hfr,hs1,by show val zs + s * 4294967296 ^ zs.length = _; rw [hfz.len, ← val_le (xs:=zs) (k:=k) (by rw [hfz.len]; omega),he,HX.out,HY.out]⟩
open Go.RowKit
set_option maxHeartbeats 1000000 in
theorem add_any {p q:Option Addr} {n m c d:Nat} {xs ys:List Nat} {w:World} (hx:Sl w p n c xs) (hy:Sl w q m d ys) (hn:n ≤ 8796093022208) (hm:m ≤ 8796093022208) :
  Calls Tryz.prog 42 #[.slice p n c,.slice q m d] w (RetN w (lim (val xs + val ys))):=by
 go_enter Tryz.func42,Tryz.ntmps42
 go_wp2_with fail
 have hbw:=(Below.refl w.heap.size w).alloc (Nat.le_refl _) (.cells #[.int .u32 0] 63)
 refine (trim_any (hx.below hbw (Nat.le_refl _))).mono ?_
 rintro e w1 ⟨n1,rfl,hx1,hn1,rfl⟩
 go_wp2_with fail
 refine (trim_any (hy.below hbw (Nat.le_refl _))).mono ?_
 rintro e w1 ⟨m1,rfl,hy1,hm1,rfl⟩
 go_wp2_with fail
 have hx2:=hx1.back hx hbw hn1
 have hy2:=hy1.back hy hbw hm1
 refine (eachAdd_any hx2 hy2 (M:=8796093022208) (by omega) (by omega) (by omega) hbw (by simp) (by simp [World.cell?_alloc_new]) (by simp)).mono ?_
 rintro e w2 ⟨g,L,zs,s,rfl,hf2,hL,hb2,hsz2,hc2,hfr2,hs2,he2⟩
 have hs3:s < 4294967296:=by omega
 have hf3:=hf2.below ((Below.refl w2.heap.size w2).alloc (Nat.le_refl _) (.cells #[.int .u32 (s:Int)] 63)) (Nat.le_refl _)
 have hb3:=hb2.alloc (by omega) (.cells #[.int .u32 (s:Int)] 63)
 have hy3:=Sl.single w2 s hs3
 go_wp2_with (at_builtin; refine wp_append32 _ rfl _ _ _ rfl Tryz.underlying26 (w.heap.size + 1) _ L _ zs rfl hf3 _ 1 _ [s] rfl hy3 (by omega) hb3 (by omega) (by simp; omega) ?_; intro p4 c4 w4 hf4 hg4 hb4)
 refine (own_any hf4.sl (by omega)).mono ?_
 rintro e w5 ⟨p5,n5,c5,rfl,hf5,hb5⟩
 go_wp2_with fail
 go_ret
 have e5:val (zs ++ [s]) = val xs + val ys:=by rw [val_append,val_single,Nat.mul_comm,he2.out,vLm,vLm]
 rw [e5] at hf5
 exact ⟨p5,n5,c5,rfl,hf5.mono hb4.size,hb4.trans (hb5.mono hb4.size)⟩
open Go.RowKit
theorem top31 (n:Nat) (h:n < 4294967296):n / 2147483648 = (n.testBit 31).toNat:=by
  rw [Nat.testBit_eq_decide_div_mod_eq]
  have:n / 2 ^ 31 < 2:=by rw [show (2:Nat) ^ 31 = 2147483648 from rfl]; omega
  rw [show (2147483648:Nat) = 2 ^ 31 from rfl]
  by_cases e:n / 2 ^ 31 % 2 = 1
  · rw [decide_eq_true e]; show _ = 1; omega
  rw [decide_eq_false e]; show _ = 0; omega
theorem bit31 (n:Nat) (h:n < 4294967296):n.testBit 31 = decide (2147483648 ≤ n):=by
  rw [Nat.testBit_eq_decide_div_mod_eq]
  rw [show (2:Nat) ^ 31 = 2147483648 from rfl]
  by_cases e:2147483648 ≤ n
  · rw [decide_eq_true e,decide_eq_true (by omega)]
  rw [decide_eq_false e,decide_eq_false (by omega)]
theorem borrow_bits (x y d s:Nat) (hx:x < 4294967296) (hy:y < 4294967296) (hd:d < 4294967296) (hs:s ≤ 1) {b:Nat} (hb:b ≤ 1) (he:d + y + s = x + 4294967296 * b) :
  bits BinOp.or IntKind.u32 (bits BinOp.and IntKind.u32 (bits BinOp.xor IntKind.u32 IntKind.u32.max (x:Int)) (y:Int))
   (bits BinOp.and IntKind.u32 (bits BinOp.xor IntKind.u32 IntKind.u32.max (bits BinOp.xor IntKind.u32 (x:Int) (y:Int))) (d:Int)) / 2147483648 = ((b:Nat):Int):=by
 have hmax:IntKind.u32.max = ((4294967295:Nat):Int):=rfl
 have e32:(4294967296:Nat) = 2 ^ 32:=rfl
 have h1:4294967295 ^^^ x < 4294967296:=by rw [e32]; exact Nat.xor_lt_two_pow (by omega) hx
 have h2:x ^^^ y < 4294967296:=by rw [e32]; exact Nat.xor_lt_two_pow hx hy
 have h3:4294967295 ^^^ (x ^^^ y) < 4294967296:=by rw [e32]; exact Nat.xor_lt_two_pow (by omega) h2
 have h4:(4294967295 ^^^ x) &&& y < 4294967296:=Nat.lt_of_le_of_lt Nat.and_le_right hy
 have h5:(4294967295 ^^^ (x ^^^ y)) &&& d < 4294967296:=Nat.lt_of_le_of_lt Nat.and_le_right hd
 have h6:((4294967295 ^^^ x) &&& y) ||| ((4294967295 ^^^ (x ^^^ y)) &&& d) < 4294967296:=by rw [e32]; exact Nat.or_lt_two_pow h4 h5
 rw [hmax,u32_xor_nat _ _ (by omega) hx,u32_xor_nat _ _ hx hy,u32_xor_nat _ _ (by omega) h2,u32_and_nat _ _ h1 hy,u32_and_nat _ _ h3 hd,u32_or_nat _ _ h4 h5]
 rw [show (2147483648:Int) = ((2147483648:Nat):Int) from rfl, ← Int.natCast_ediv,top31 _ h6]
 congr 1
 simp only [Nat.testBit_or,Nat.testBit_and,Nat.testBit_xor]
 rw [bit31 x hx,bit31 y hy,bit31 d hd,bit31 4294967295 (by omega)]
 by_cases c1:2147483648 ≤ x <;> by_cases c2:2147483648 ≤ y <;> by_cases c3:2147483648 ≤ d <;> simp [c1,c2,c3] <;> omega
def RetSub1 (cb x y s:Nat) (w:World) (e:Ending) (w':World):Prop :=
  ∃ d b,e = .returned (.int .u32 ((d:Nat):Int)) ∧ w.setCell ⟨cb,0,none⟩ (.int .u32 ((b:Nat):Int)) = w' ∧ d < 4294967296 ∧ b ≤ 1 ∧ Hid (d + y + s = x + 4294967296 * b)
set_option maxHeartbeats 400000 in
theorem sub1_any {x y s:Nat} {cb:Nat} {w:World} {X Y:Int} (hX:X = (x:Int)) (hY:Y = (y:Int)) (hx:x < 4294967296) (hy:y < 4294967296) (hs:s ≤ 1)
  (hc:w.cell? ⟨cb,0,none⟩ = some (.int .u32 (s:Int))) (hf:w.frozen? ⟨cb,0,none⟩ = false) :
  Calls Tryz.prog 153 #[.int .u32 X,.int .u32 Y,.pointer (some ⟨cb,0,none⟩)] w (RetSub1 cb x y s w):=by
 subst hX
 subst hY
 obtain ⟨b,hb⟩:∃ b,b = (if x < y + s then 1 else 0):=⟨_,rfl⟩
 obtain ⟨d,hd⟩:∃ d,d = x + 4294967296 * b - y - s:=⟨_,rfl⟩
 have hb1:b ≤ 1:=by rw [hb]; split <;> omega
 have hd1:d < 4294967296:=by rw [hd,hb]; split <;> omega
 have he:d + y + s = x + 4294967296 * b:=by rw [hd,hb]; split <;> omega
 have hbits:=borrow_bits x y d s hx hy hd1 hs hb1 he
 have HB:=Lib.hid hbits
 have HE:=Lib.hid he
 have HD:Hid (((x:Int) - y - s) % 4294967296 = (d:Int)):=by show _ = _; omega
 clear hb hd he hbits
 go_enter Tryz.func153,Tryz.ntmps153
 go_wp2_with fail
 go_in
 go_wp2_with fail
 rw [HD.out,HB.out]
 go_ret
 exact ⟨d,b,rfl,rfl,hd1,hb1,HE.out⟩
def RetEachS (w0:World) (M:Nat) (T:Nat × Nat) (e:Ending) (w':World):Prop :=
 ∃ g L ys s,e = .returned (.slice (some ⟨g,0,none⟩) L (L + 1)) ∧ Fr (w0.heap.size + 1) w' (some ⟨g,0,none⟩) L (L + 1) ys ∧ L ≤ M ∧ Below w0.heap.size w0 w' ∧ w0.heap.size + 1 < w'.heap.size ∧
  w'.cell? ⟨w0.heap.size,0,none⟩ = some (.int .u32 ((s:Nat):Int)) ∧ w'.frozen? ⟨w0.heap.size,0,none⟩ = false ∧ s ≤ 1 ∧ Hid (val ys + T.2 = T.1 + s * 4294967296 ^ ys.length)
def EachAtS (w0 w:World) (L:Nat) (xs ys:List Nat) (k:Nat) (wr:World):Prop :=
 ∃ zs s,Fr w.heap.size wr (some ⟨w.heap.size,0,none⟩) L (L + 1) zs ∧ Below w0.heap.size w0 wr ∧ wr.heap.size = w.heap.size + 1 ∧
  wr.cell? ⟨w0.heap.size,0,none⟩ = some (.int .u32 ((s:Nat):Int)) ∧ wr.frozen? ⟨w0.heap.size,0,none⟩ = false ∧ s ≤ 1 ∧ sm (nd zs) k + sm (nd ys) k = sm (nd xs) k + s * 4294967296 ^ k
theorem each_nextS {w0 w wr:World} {L k x y s d b:Nat} {xs ys zs:List Nat} (hcb:w0.heap.size < w.heap.size) (hk:k < L)
  (hfz:Fr w.heap.size wr (some ⟨w.heap.size,0,none⟩) L (L + 1) zs) (hb:Below w0.heap.size w0 wr) (hsz:wr.heap.size = w.heap.size + 1)
  (hc:wr.cell? ⟨w0.heap.size,0,none⟩ = some (.int .u32 ((s:Nat):Int))) (hf:wr.frozen? ⟨w0.heap.size,0,none⟩ = false) (he:sm (nd zs) k + sm (nd ys) k = sm (nd xs) k + s * 4294967296 ^ k)
  (hx:x = nd xs k) (hy:y = nd ys k) (hd:d + y + s = x + 4294967296 * b) (hd2:d < 4294967296) (hb2:b ≤ 1) :
  EachAtS w0 w L xs ys (k + 1) ((wr.setCell ⟨w0.heap.size,0,none⟩ (.int .u32 ((b:Nat):Int))).setCell ⟨w.heap.size,k,none⟩ (.int .u32 ((d:Nat):Int))):=by
 have h1:((wr.setCell ⟨w0.heap.size,0,none⟩ (.int .u32 ((b:Nat):Int))).setCell ⟨w.heap.size,k,none⟩ (.int .u32 ((d:Nat):Int))).cell? ⟨w0.heap.size,0,none⟩ = some (.int .u32 ((b:Nat):Int)):=by
  rw [World.cell?_of_block (w:=wr.setCell ⟨w0.heap.size,0,none⟩ (.int .u32 ((b:Nat):Int))) (Below.heap_setCell _ _ _ _ (by simp; omega))]
  exact World.cell?_setCell_same' _ _ _ (by rw [hc]; rfl)
 refine ⟨zs.set k d,b,Fr.set (hfz.setOther (a:=⟨w0.heap.size,0,none⟩) (by intro g hg; simp at hg; subst hg; simp; omega) _) k hd2,?_,?_,h1,?_,hb2,?_⟩
 ·exact (hb.setCell (p:=⟨w0.heap.size,0,none⟩) (Nat.le_refl _) _).setCell (p:=⟨w.heap.size,k,none⟩) (by simp; omega) _
 ·simpa using hsz
 ·rw [World.frozen?_setCell,World.frozen?_setCell]; exact hf
 have:=sub_step (x:=x) (y:=y) hk hfz.len he hd
 rw [hx,hy] at this
 exact this
set_option maxHeartbeats 1000000 in
theorem eachSub_any {p q:Option Addr} {n m c d:Nat} {xs ys:List Nat} {w0 w:World} (hx:Sl w0 p n c xs) (hy:Sl w0 q m d ys) {M:Nat} (hn:n ≤ M) (hm:m ≤ M) (hM:M ≤ 17592186044416)
  (hb0:Below w0.heap.size w0 w) (hcb:w0.heap.size < w.heap.size) (hc:w.cell? ⟨w0.heap.size,0,none⟩ = some (.int .u32 0)) (hf:w.frozen? ⟨w0.heap.size,0,none⟩ = false) :
  Calls Tryz.prog 83 #[.slice p n c,.slice q m d,.func (.func 153) #[] #[.pointer (some ⟨w0.heap.size,0,none⟩)]] w (RetEachS w0 M (val xs,val ys)):=by
 have hmx:=run_nmax n m
 have hL:=nmax_le n m
 have hL3:=nmax_or n m
 have hL2:=nmax_bd hn hm
 have HX:Hid (sm (nd xs) (nmax n m) = val xs):=val_le (by rw [hx.len]; omega)
 have HY:Hid (sm (nd ys) (nmax n m) = val ys):=val_le (by rw [hy.len]; omega)
 go_enter Tryz.func83,Tryz.ntmps83
 generalize nmax n m = L at *
 go_wp2_with (at_make; refine wp_make32c _ rfl _ _ _ rfl Tryz.underlying26 _ _ _ _ L (L + 1) rfl rfl rfl rfl (Nat.le_succ _) (by omega) w.heap.size w (Below.refl _ _) (Nat.le_refl _) ?_; intro w1 hf1 hb1 hb2 hsz1)
 clear hmx
 have hcell1:=(below_cell hb1).1 w0.heap.size 0 (by omega)
 have hfroz1:=(below_cell hb1).2 w0.heap.size 0 (by omega)
 rw [hc] at hcell1
 rw [hf] at hfroz1
 have H0:EachAtS w0 w L xs ys 0 w1:=⟨_,0,hf1,hb0.trans (hb1.mono (by omega)),hsz1,hcell1,hfroz1,by omega,rfl⟩
 clear hcell1 hfroz1 hf1 hb1 hb2 hsz1 hc hf
 go_loopw [23] (fun v wr => ∃ k:Nat,k ≤ L ∧ v = .int .i64 k ∧ EachAtS w0 w L xs ys k wr) (fun v _ => L - (intOf v).toNat)
 case atStart => exact ⟨0,by omega,rfl,H0⟩
 case round =>
  clear H0
  obtain ⟨k,hk,rfl,HE⟩:=hrel
  by_cases hkL:k < L
  ·obtain ⟨zs,s,hfz,hbr,hszr,hcr,hfr,hs1,he⟩:=HE
   have HH:=Lib.hid he
   clear he
   have hzc:=hfz.cellAt hkL
   have hzf:=hfz.frozenAt k
   have hx1:=hx.lim1 k
   have hy1:=hy.lim1 k
   have hne1:w.heap.size ≠ w0.heap.size:=by omega
   have hne2:w0.heap.size ≠ w.heap.size:=by omega
   have HS:=Lib.hid hszr
   clear hszr
   rcases Nat.lt_or_ge k n with hkn | hkn
   all_goals rcases Nat.lt_or_ge k m with hkm | hkm
   ·obtain ⟨b1,o1,rfl,hxc⟩:=(hx.below hbr (Nat.le_refl _)).cell k hkn
    obtain ⟨b2,o2,rfl,hyc⟩:=(hy.below hbr (Nat.le_refl _)).cell k hkm
    go_wp2_with (go_at_call 153; refine (sub1_any (x:=nd xs k) (y:=nd ys k) rfl rfl hx1 hy1 hs1 hcr hfr).mono ?_; rintro e w' ⟨dd,bb,rfl,rfl,hd,hb,HD⟩)
    exact ⟨⟨k + 1,by omega,by go_num,each_nextS hcb hkL hfz hbr HS.out hcr hfr HH.out rfl rfl HD.out hd hb⟩,by simp [intOf]; omega⟩
   ·obtain ⟨b1,o1,rfl,hxc⟩:=(hx.below hbr (Nat.le_refl _)).cell k hkn
    obtain ⟨z,hz1,hz2⟩:∃ z,z = nd ys k ∧ (0:Int) = (z:Int):=⟨_,rfl,by rw [nd_lt_len (by rw [hy.len]; exact hkm)]; rfl⟩
    have HZ1:=Lib.hid hz1
    have HZ2:=Lib.hid hz2
    have hz3:z < 4294967296:=by omega
    clear hz1 hz2
    go_wp2_with (go_at_call 153; refine (sub1_any (x:=nd xs k) (y:=z) rfl HZ2.out hx1 hz3 hs1 hcr hfr).mono ?_; rintro e w' ⟨dd,bb,rfl,rfl,hd,hb,HD⟩)
    exact ⟨⟨k + 1,by omega,by go_num,each_nextS hcb hkL hfz hbr HS.out hcr hfr HH.out rfl HZ1.out HD.out hd hb⟩,by simp [intOf]; omega⟩
   ·obtain ⟨b2,o2,rfl,hyc⟩:=(hy.below hbr (Nat.le_refl _)).cell k hkm
    obtain ⟨z,hz1,hz2⟩:∃ z,z = nd xs k ∧ (0:Int) = (z:Int):=⟨_,rfl,by rw [nd_lt_len (by rw [hx.len]; exact hkn)]; rfl⟩
    have HZ1:=Lib.hid hz1
    have HZ2:=Lib.hid hz2
    have hz3:z < 4294967296:=by omega
    clear hz1 hz2
    go_wp2_with (go_at_call 153; refine (sub1_any (x:=z) (y:=nd ys k) HZ2.out rfl hz3 hy1 hs1 hcr hfr).mono ?_; rintro e w' ⟨dd,bb,rfl,rfl,hd,hb,HD⟩)
    exact ⟨⟨k + 1,by omega,by go_num,each_nextS hcb hkL hfz hbr HS.out hcr hfr HH.out HZ1.out rfl HD.out hd hb⟩,by simp [intOf]; omega⟩
   omega
  obtain rfl:k = L:=by omega
  go_wp2_with fail
  go_ret
  obtain ⟨zs,s,hfz,hbr,hszr,hcr,hfr,hs1,he⟩:=HE
  exact ⟨_,k,zs,s,rfl,hfz.mono (by omega),hL2,hbr,by omega,hcr,hfr,hs1,by show val zs + val ys = val xs + s * 4294967296 ^ zs.length; rw [hfz.len, ← val_le (xs:=zs) (k:=k) (by rw [hfz.len]; omega), ← HX.out, ← HY.out,he]⟩
set_option maxHeartbeats 1000000 in
theorem less_any {p q:Option Addr} {n m c d:Nat} {xs ys:List Nat} {w:World} (hx:Sl w p n c xs) (hy:Sl w q m d ys) (hn:n ≤ 8796093022208) (hm:m ≤ 8796093022208) (hle:val ys ≤ val xs) :
  Calls Tryz.prog 134 #[.slice p n c,.slice q m d] w (RetN w (lim (val xs - val ys))):=by
 go_enter Tryz.func134,Tryz.ntmps134
 go_wp2_with fail
 have hbw:=(Below.refl w.heap.size w).alloc (Nat.le_refl _) (.cells #[.int .u32 0] 63)
 refine (trim_any (hx.below hbw (Nat.le_refl _))).mono ?_
 rintro e w1 ⟨n1,rfl,hx1,hn1,rfl⟩
 go_wp2_with fail
 refine (trim_any (hy.below hbw (Nat.le_refl _))).mono ?_
 rintro e w1 ⟨m1,rfl,hy1,hm1,rfl⟩
 go_wp2_with fail
 have hx2:=hx1.back hx hbw hn1
 have hy2:=hy1.back hy hbw hm1
 refine (eachSub_any hx2 hy2 (M:=8796093022208) (by omega) (by omega) (by omega) hbw (by simp) (by simp [World.cell?_alloc_new]) (by simp)).mono ?_
 rintro e w2 ⟨g,L,zs,s,rfl,hf2,hL,hb2,hsz2,hc2,hfr2,hs2,he2⟩
 go_wp2_with fail
 refine (own_any hf2.sl (by omega)).mono ?_
 rintro e w5 ⟨p5,n5,c5,rfl,hf5,hb5⟩
 go_wp2_with fail
 go_ret
 have e5:val zs = val xs - val ys:=by
  have:=he2.out
  simp only [vLm] at this
  exact less_val hf2.lims this hs2 hle
 rw [e5] at hf5
 exact ⟨p5,n5,c5,rfl,hf5.mono (by omega),hb2.trans (hb5.mono (by omega))⟩
open Go.RowKit
set_option maxHeartbeats 1000000 in
theorem cmp_any {p q:Option Addr} {n m c d:Nat} {xs ys:List Nat} {w:World} (hx:Sl w p n c xs) (hy:Sl w q m d ys) :
  Calls Tryz.prog 40 #[.slice p n c,.slice q m d] w (RetInt w (cmpN (val xs) (val ys))):=by
 go_enter Tryz.func40,Tryz.ntmps40
 go_wp2_with fail
 refine (trim_any hx).mono ?_
 rintro e w1 ⟨n1,rfl,hx1,hn1,rfl⟩
 go_wp2_with fail
 refine (trim_any hy).mono ?_
 rintro e w1 ⟨m1,rfl,hy1,hm1,rfl⟩
 have hxl:=hx1.len
 have hyl:=hy1.len
 rw [length_lim] at hxl hyl
 have HXL:=Lib.hid hxl
 have HYL:=Lib.hid hyl
 have hc1:=hx1.cap
 have hc2:=hy1.cap
 have hl1:=hx1.le
 have hl2:=hy1.le
 unfold maxLen at hc1 hc2
 clear hxl hyl
 rcases Nat.lt_trichotomy n1 m1 with hlt | heq | hgt
 ·have hz:((n1:Int) != (m1:Int)) = true:=by rw [bne_iff_ne]; omega
  go_wp2_with fail
  go_ret
  exact ⟨by rw [cmpN_lt (ll_lt (by rw [HXL.out,HYL.out]; exact hlt))]; rfl,Below.refl _ _⟩
 ·subst heq
  go_wp2_with fail
  go_loopw [5] (fun v wr => ∃ k:Nat,k ≤ n1 ∧ v = .int .i64 ((k:Int) - 1) ∧ Below w.heap.size w wr ∧ Hid (∀ j,k ≤ j → nd (lim (val xs)) j = nd (lim (val ys)) j)) (fun v _ => (intOf v + 1).toNat)
  case atStart =>
   refine ⟨n1,by omega,rfl,Below.refl _ _,fun j hj => ?_⟩
   rw [nd_lt_len (by rw [hx1.len]; exact hj),nd_lt_len (by rw [hy1.len]; exact hj)]
  case round =>
   obtain ⟨k,hk,rfl,hb,HJ⟩:=hrel
   rcases k with _ | j
   ·go_wp2_with fail
    go_ret
    exact ⟨by rw [cmpN_eq (lim_eq_of (by rw [HXL.out,HYL.out]) (fun j => HJ.out j (Nat.zero_le _)))]; rfl,hb⟩
   have ej:((j + 1:Nat):Int) - 1 = (j:Int):=by omega
   rw [ej]
   clear ej
   obtain ⟨b1,o1,rfl,hxc⟩:=(hx1.below hb (Nat.le_refl _)).cell j (by omega)
   obtain ⟨b2,o2,rfl,hyc⟩:=(hy1.below hb (Nat.le_refl _)).cell j (by omega)
   generalize hX:nd (lim (val xs)) j = X at *
   generalize hY:nd (lim (val ys)) j = Y at *
   have HX:=Lib.hid hX
   have HY:=Lib.hid hY
   clear hX hY
   have hi1:(j:Int) < (n1:Int):=by omega
   by_cases he:X = Y
   ·subst he
    go_wp2_with fail
    go_quiet (fail)
    go_wp2_with fail
    refine ⟨⟨j,by omega,rfl,hb.trans (below_drewN (Below.refl _ _) _),fun i hi => ?_⟩,by simp [intOf]⟩
    by_cases e:i = j
    ·subst e; rw [HX.out,HY.out]
    exact HJ.out i (by omega)
   have hz:((X:Int) != (Y:Int)) = true:=by rw [bne_iff_ne]; omega
   go_wp2_with fail
   go_quiet (fail)
   go_wp2_with fail
   go_quiet (fail)
   by_cases hlt:X < Y
   ·go_wp2_with fail
    go_ret
    exact ⟨by rw [cmpN_lt (lim_lt_of (i:=j) (by rw [HXL.out,HYL.out]) (fun i hi => HJ.out i (by omega)) (by rw [HXL.out]; omega) (by rw [HX.out,HY.out]; exact hlt))]; rfl,hb.trans (below_drewN (below_drewN (Below.refl _ _) _) _)⟩
   go_wp2_with fail
   go_ret
   exact ⟨by rw [cmpN_gt (lim_lt_of (i:=j) (by rw [HXL.out,HYL.out]) (fun i hi => (HJ.out i (by omega)).symm) (by rw [HYL.out]; omega) (by rw [HX.out,HY.out]; omega))]; rfl,hb.trans (below_drewN (below_drewN (Below.refl _ _) _) _)⟩
 have hz:((n1:Int) != (m1:Int)) = true:=by rw [bne_iff_ne]; omega
 go_wp2_with fail
 go_ret
 exact ⟨by rw [cmpN_gt (ll_lt (by rw [HXL.out,HYL.out]; exact hgt))]; rfl,Below.refl _ _⟩
set_option maxHeartbeats 400000 in
theorem sub_yes {p q:Option Addr} {n m c d:Nat} {xs ys:List Nat} {w:World} (hx:Sl w p n c xs) (hy:Sl w q m d ys) (hn:n ≤ 8796093022208) (hm:m ≤ 8796093022208) (hle:val ys ≤ val xs) :
  Calls Tryz.prog 110 #[.slice p n c,.slice q m d] w (RetNE w (lim (val xs - val ys)) 0):=by
 have hc:0 ≤ cmpN (val xs) (val ys):=by unfold cmpN; rw [if_neg (by omega)]; split <;> omega
 generalize hz:cmpN (val xs) (val ys) = z at *
 have HZ:=Lib.hid hz
 clear hz
 go_enter Tryz.func110,Tryz.ntmps110
 go_wp2_with fail
 refine (cmp_any hx hy).mono ?_
 rw [HZ.out]
 rintro e w1 ⟨rfl,hb⟩
 go_wp2_with fail
 refine (less_any (hx.below hb (Nat.le_refl _)) (hy.below hb (Nat.le_refl _)) hn hm hle).mono ?_
 rintro e w2 ⟨p2,n2,c2,rfl,hf2,hb2⟩
 go_wp2_with fail
 go_ret2
 exact ⟨_,_,_,rfl,hf2.mono hb.size,hb.trans (hb2.mono hb.size)⟩
set_option maxHeartbeats 400000 in
theorem of_any {N:Nat} {X:Int} {w:World} (hX:X = (N:Int)) (hN:N < 18446744073709551616) :
  Calls Tryz.prog 74 #[.int .u64 X] w (RetN w (lim N)):=by
 subst hX
 have hs:=Sl.lit w [N % 4294967296,N / 4294967296] (lims_pair (Nat.mod_lt _ (by omega)) (by omega))
 have hv:val [N % 4294967296,N / 4294967296] = N:=by rw [val_pair]; omega
 have HV:=Lib.hid hv
 clear hv
 go_enter Tryz.func74,Tryz.ntmps74
 go_wp2_with fail
 refine (own_any hs (by simp)).mono ?_
 rw [HV.out]
 rintro e w2 ⟨p2,n2,c2,rfl,hf2,hb2⟩
 go_wp2_with fail
 go_ret
 have hb1:=(Below.refl w.heap.size w).alloc (Nat.le_refl _) (.cells ([N % 4294967296,N / 4294967296].map fun x:Nat => Value.int .u32 (x:Int)).toArray 63)
 exact ⟨_,_,_,rfl,hf2.mono hb1.size,hb1.trans (hb2.mono hb1.size)⟩
open Go.RowKit
def MulAt (w:World) (L m:Nat) (xs ys:List Nat) (i:Nat) (wr:World):Prop :=
  ∃ zs,Fr w.heap.size wr (some ⟨w.heap.size,0,none⟩) L L zs ∧ Below w.heap.size w wr ∧ Hid (sm (nd zs) (i + m) = sm (nd xs) i * val ys ∧ ∀ j,i + m ≤ j → nd zs j = 0)
def MulIn (w:World) (L m:Nat) (xs ys:List Nat) (i k c:Nat) (wr:World):Prop :=
 ∃ zs,Fr w.heap.size wr (some ⟨w.heap.size,0,none⟩) L L zs ∧ Below w.heap.size w wr ∧
  Hid (∃ z0:Nat → Nat,(∀ j,i + k ≤ j → nd zs j = z0 j) ∧ (∀ j,i + m ≤ j → z0 j = 0) ∧ sm z0 (i + m) = sm (nd xs) i * val ys ∧ sm (nd zs) (i + k) + c * 4294967296 ^ (i + k) = sm z0 (i + k) + nd xs i * sm (nd ys) k * 4294967296 ^ i)
theorem mulIn_start {w wr:World} {L m i:Nat} {xs ys:List Nat} (h:MulAt w L m xs ys i wr):MulIn w L m xs ys i 0 0 wr:=by
  obtain ⟨zs,hf,hb,h⟩:=h
  refine ⟨zs,hf,hb,nd zs,fun _ _ => rfl,h.out.2,h.out.1,?_⟩
  simp [sm]
theorem mulIn_next {w wr:World} {L m i k c:Nat} {xs ys zs:List Nat} (hL:i + k < L) (hf:Fr w.heap.size wr (some ⟨w.heap.size,0,none⟩) L L zs) (hb:Below w.heap.size w wr)
  (h:Hid (∃ z0:Nat → Nat,(∀ j,i + k ≤ j → nd zs j = z0 j) ∧ (∀ j,i + m ≤ j → z0 j = 0) ∧ sm z0 (i + m) = sm (nd xs) i * val ys ∧ sm (nd zs) (i + k) + c * 4294967296 ^ (i + k) = sm z0 (i + k) + nd xs i * sm (nd ys) k * 4294967296 ^ i)) :
  MulIn w L m xs ys i (k + 1) ((nd xs i * nd ys k + nd zs (i + k) + c) / 4294967296) (wr.setCell ⟨w.heap.size,i + k,none⟩ (.int .u32 (((nd xs i * nd ys k + nd zs (i + k) + c) % 4294967296:Nat):Int))):=by
 obtain ⟨z0,h1,h2,h3,h4⟩:=h.out
 refine ⟨zs.set (i + k) ((nd xs i * nd ys k + nd zs (i + k) + c) % 4294967296),hf.set _ (Nat.mod_lt _ (by omega)),hb.setCell (p:=⟨w.heap.size,i + k,none⟩) (Nat.le_refl _) _,z0,?_,h2,h3,?_⟩
 ·intro j hj
  rw [nd_set _ _ _ _ (by rw [hf.len]; exact hL),if_neg (by omega)]
  exact h1 j (by omega)
 have:=mul_step (x:=nd xs i) (y:=nd ys k) hL hf.len h4
 rw [← Nat.add_assoc,this,h1 (i + k) (Nat.le_refl _)]
 rfl
theorem mulIn_end {w wr:World} {L m i c:Nat} {xs ys zs:List Nat} (hm:ys.length = m) (hL:i + m < L) (hc:c < 4294967296) (hf:Fr w.heap.size wr (some ⟨w.heap.size,0,none⟩) L L zs) (hb:Below w.heap.size w wr)
  (h:Hid (∃ z0:Nat → Nat,(∀ j,i + m ≤ j → nd zs j = z0 j) ∧ (∀ j,i + m ≤ j → z0 j = 0) ∧ sm z0 (i + m) = sm (nd xs) i * val ys ∧ sm (nd zs) (i + m) + c * 4294967296 ^ (i + m) = sm z0 (i + m) + nd xs i * sm (nd ys) m * 4294967296 ^ i)) :
  MulAt w L m xs ys (i + 1) (wr.setCell ⟨w.heap.size,i + m,none⟩ (.int .u32 ((c:Nat):Int))):=by
 obtain ⟨z0,h1,h2,h3,h4⟩:=h.out
 refine ⟨zs.set (i + m) c,hf.set _ hc,hb.setCell (p:=⟨w.heap.size,i + m,none⟩) (Nat.le_refl _) _,?_,?_⟩
 ·have e:sm (nd ys) m = val ys:=by rw [← hm]; rfl
  rw [e,h3] at h4
  rw [show i + 1 + m = i + m + 1 from by omega]
  exact mul_last hL hf.len h4
 intro j hj
 rw [nd_set _ _ _ _ (by rw [hf.len]; exact hL),if_neg (by omega),h1 j (by omega)]
 exact h2 j (by omega)
set_option maxHeartbeats 2000000 in
theorem mul_any {p q:Option Addr} {n m c d:Nat} {xs ys:List Nat} {w:World} (hx:Sl w p n c xs) (hy:Sl w q m d ys) (hn:n ≤ 4398046511104) (hm:m ≤ 4398046511104) :
  Calls Tryz.prog 41 #[.slice p n c,.slice q m d] w (RetN w (lim (val xs * val ys))):=by
 go_enter Tryz.func41,Tryz.ntmps41
 go_wp2_with fail
 refine (trim_any hx).mono ?_
 rintro e w1 ⟨n1,rfl,hx1,hn1,rfl⟩
 go_wp2_with fail
 refine (trim_any hy).mono ?_
 rintro e w1 ⟨m1,rfl,hy1,hm1,rfl⟩
 have HX:Hid (val (lim (val xs)) = val xs):=vLm _
 have HY:Hid (val (lim (val ys)) = val ys):=vLm _
 generalize lim (val xs) = us at *
 generalize lim (val ys) = vs at *
 have HXL:=Lib.hid hx1.len
 have HYL:=Lib.hid hy1.len
 rcases Nat.eq_zero_or_pos n1 with rfl | hn0
 ·go_wp2_with fail
  go_ret
  have e:val xs * val ys = 0:=by rw [← HX.out,List.eq_nil_of_length_eq_zero HXL.out,val_nil,Nat.zero_mul]
  rw [e]
  exact ⟨_,_,_,rfl,Fr.nil _ _,Below.refl _ _⟩
 have hz1:((n1:Int) == 0) = false:=by rw [beq_eq_false_iff_ne]; omega
 rcases Nat.eq_zero_or_pos m1 with rfl | hm0
 ·go_wp2_with fail
  go_ret
  have e:val xs * val ys = 0:=by rw [← HY.out,List.eq_nil_of_length_eq_zero HYL.out,val_nil,Nat.mul_zero]
  rw [e]
  exact ⟨_,_,_,rfl,Fr.nil _ _,Below.refl _ _⟩
 have hz2:((m1:Int) == 0) = false:=by rw [beq_eq_false_iff_ne]; omega
 obtain ⟨L,hL1⟩:∃ L,L = n1 + m1:=⟨_,rfl⟩
 have HL:=Lib.hid hL1
 have hLb:L ≤ 8796093022208:=by omega
 have hL2:n1 + m1 ≤ L:=by omega
 have hL3:((n1:Int) + (m1:Int)) = (L:Int):=by omega
 clear hL1
 go_wp2_with (at_make; refine wp_make32 _ rfl _ _ _ rfl Tryz.underlying26 _ _ _ _ L rfl rfl rfl rfl (by omega) w.heap.size w (Below.refl _ _) (Nat.le_refl _) ?_; intro w1 hf1 hb1 hb0 hsz1)
 clear hL3 hz1 hz2
 have H0:MulAt w L m1 us vs 0 w1:=⟨_,hf1,hb1,by show _ ∧ _; exact ⟨by rw [sm_zero (fun i _ => nd_replicate _ _)]; simp [sm],fun j _ => nd_replicate _ _⟩⟩
 clear hf1 hb1 hb0 hsz1
 go_loopw [32] (fun v wr => ∃ i:Nat,i ≤ n1 ∧ v = .int .i64 i ∧ MulAt w L m1 us vs i wr) (fun v _ => n1 - (intOf v).toNat)
 case atStart => exact ⟨0,by omega,rfl,H0⟩
 case round =>
  clear H0
  obtain ⟨i,hi,rfl,HE⟩:=hrel
  by_cases hiL:i < n1
  ·have HI:=mulIn_start HE
   have hbr:Below w.heap.size w wr:=by obtain ⟨zs,_,hb,_⟩:=HE; exact hb
   clear HE
   obtain ⟨b1,o1,rfl,hxc⟩:=(hx1.below hbr (Nat.le_refl _)).cell i hiL
   have hx2:=hx1.lim1 i
   go_wp2_with fail
   obtain ⟨wo,rfl⟩:∃ wo:World,wo = wr:=⟨_,rfl⟩
   clear hxc hbr
   go_loopw [8,39] (fun cv v wr => ∃ k c:Nat,k ≤ m1 ∧ c < 4294967296 ∧ cv = .int .u64 c ∧ v = .int .i64 k ∧ MulIn w L m1 us vs i k c wr) (fun _ v _ => m1 - (intOf v).toNat)
   case atStart => exact ⟨0,0,by omega,by omega,rfl,rfl,HI⟩
   case round =>
    clear HI
    obtain ⟨k,cc,hk,hcc,rfl,rfl,zs,hfz,hbz,HH⟩:=hrel
    by_cases hkm:k < m1
    ·obtain ⟨b2,o2,rfl,hyc⟩:=(hy1.below hbz (Nat.le_refl _)).cell k hkm
     have hy2:=hy1.lim1 k
     have hzc:=hfz.cellAt (i:=i + k) (by omega)
     have hzf:=hfz.frozenAt (i + k)
     have hz2:=hfz.sl.lim1 (i + k)
     have hxy:=mul_bd hx2 hy2
     have hxy2:(nd us i:Int) * (nd vs k:Int) ≤ 18446744065119617025:=by
      rw [← Int.natCast_mul]; omega
     have hxy3:0 ≤ (nd us i:Int) * (nd vs k:Int):=by
      rw [← Int.natCast_mul]; omega
     go_wp2_with fail
     refine ⟨⟨k + 1,(nd us i * nd vs k + nd zs (i + k) + cc) / 4294967296,by omega,by omega,rfl,by go_num,mulIn_next (by omega) hfz hbz HH⟩,by simp [intOf]; omega⟩
    obtain rfl:k = m1:=by omega
    have hzc:=hfz.cellAt (i:=i + k) (by omega)
    have hzf:=hfz.frozenAt (i + k)
    go_wp2_with fail
    exact ⟨⟨i + 1,by omega,by go_num,mulIn_end HYL.out (by omega) hcc hfz hbz HH⟩,by simp [intOf]; omega⟩
  obtain rfl:i = n1:=by omega
  obtain ⟨zs,hf,hb,HH⟩:=HE
  go_wp2_with fail
  refine (own_any hf.sl (by omega)).mono ?_
  rintro e w2 ⟨p2,n2,c2,rfl,hf2,hb2⟩
  go_wp2_with fail
  go_ret
  have e:val zs = val xs * val ys:=by
   have h1:=HH.out.1
   rw [← HL.out] at h1
   rw [← HX.out, ← HY.out, ← val_le (xs:=zs) (k:=L) (by rw [hf.len]; omega),h1]
   congr 1
   exact val_le (by rw [HXL.out]; omega)
  rw [e] at hf2
  exact ⟨_,_,_,rfl,hf2.mono hb.size,hb.trans (hb2.mono hb.size)⟩
open Go.RowKit
def RetShort (w:World) (N b:Nat) (e:Ending) (w':World):Prop :=
  ∃ p n c r,e = .returned (.tuple #[.slice p n c,.int .u32 ((r:Nat):Int)]) ∧ Fr w.heap.size w' p n c (lim (N / b)) ∧ Below w.heap.size w w' ∧ Hid (r = N % b) ∧ r < 4294967296
set_option maxHeartbeats 1000000 in
theorem short_any {p:Option Addr} {n c:Nat} {xs:List Nat} {w:World} {b:Nat} (hx:Sl w p n c xs) (hb:b < 4294967296) (hb0:0 < b) (hn:n ≤ 17592186044416) :
  Calls Tryz.prog 112 #[.slice p n c,.int .u32 (b:Int)] w (RetShort w (val xs) b):=by
 have hcap:=hx.cap
 have hle:=hx.le
 unfold maxLen at hcap
 go_enter Tryz.func112,Tryz.ntmps112
 go_wp2_with (at_make; refine wp_make32 _ rfl _ _ _ rfl Tryz.underlying26 _ _ _ _ n rfl rfl rfl rfl (by omega) w.heap.size w (Below.refl _ _) (Nat.le_refl _) ?_; intro w1 hf1 hb1 hb2 hsz1)
 clear hsz1 hb1
 go_loopw [7,8] (fun r v wr => ∃ k s:Nat,k ≤ n ∧ v = .int .i64 ((k:Int) - 1) ∧ s < b ∧ r = .int .u64 s ∧ ∃ zs,Fr w.heap.size wr (some ⟨w.heap.size,0,none⟩) n n zs ∧ Below w.heap.size w wr ∧ Hid (val (zs.drop k) * b + s = val (xs.drop k))) (fun _ v _ => (intOf v + 1).toNat)
 case atStart => exact ⟨n,0,by omega,rfl,hb0,rfl,_,hf1,hb2,by show _ = _; rw [val_drop_len (by simp),val_drop_len (by rw [hx.len]; exact Nat.le_refl _),Nat.zero_mul]⟩
 case round =>
  clear hf1 hb2
  obtain ⟨k,s,hk,rfl,hs,rfl,zs,hf,hbr,HH⟩:=hrel
  rcases k with _ | j
  ·go_wp2_with fail
   refine (own_any hf.sl hn).mono ?_
   rintro e w2 ⟨p2,n2,c2,rfl,hf2,hb2⟩
   have hs2:s < 4294967296:=by omega
   go_wp2_with fail
   go_ret2
   have h:=HH.out
   simp only [List.drop_zero] at h
   have h1:val zs = val xs / b:=by
    rw [← h,Nat.add_comm,Nat.add_mul_div_right _ _ hb0,Nat.div_eq_of_lt hs,Nat.zero_add]
   have h2:s = val xs % b:=by
    rw [← h,Nat.add_comm,Nat.add_mul_mod_self_right,Nat.mod_eq_of_lt hs]
   rw [h1] at hf2
   exact ⟨_,_,_,s,rfl,hf2.mono hbr.size,hbr.trans (hb2.mono hbr.size),h2,hs2⟩
  have ej:((j + 1:Nat):Int) - 1 = (j:Int):=by omega
  rw [ej]
  clear ej
  obtain ⟨b1,o1,rfl,hxc⟩:=(hx.below hbr (Nat.le_refl _)).cell j (by omega)
  have hx1:=hx.lim1 j
  have hzc:=hf.cellAt (i:=j) (by omega)
  have hzf:=hf.frozenAt j
  have hor:=or64 (show s < 4294967296 by omega) hx1
  have hjl:j < xs.length:=by rw [hx.len]; omega
  have hjz:j < zs.length:=by rw [hf.len]; omega
  have HX:=Lib.hid (val_drop_succ hjl)
  have HJZ:=Lib.hid hjz
  clear hjl hjz
  generalize nd xs j = X at *
  obtain ⟨t,ht⟩:∃ t,t = s * 4294967296 + X:=⟨_,rfl⟩
  rw [← ht] at hor
  have HT:=Lib.hid ht
  have ht1:t < 18446744073709551616:=by omega
  have hq1:t / b < 4294967296:=by
   rw [Nat.div_lt_iff_lt_mul hb0,ht]
   have:(s + 1) * 4294967296 ≤ b * 4294967296:=Nat.mul_le_mul_right _ hs
   omega
  have hr1:t % b < b:=Nat.mod_lt _ hb0
  have hq2:(t:Int) / (b:Int) = ((t / b:Nat):Int):=by omega
  have hr2:(t:Int) % (b:Int) = ((t % b:Nat):Int):=by omega
  have hd:=Nat.div_add_mod t b
  generalize t / b = Q at *
  generalize t % b = R at *
  have HD:=Lib.hid hd
  clear hd ht
  go_wp2_with fail
  rw [hr2]
  refine ⟨⟨j,R,by omega,rfl,hr1,rfl,_,hf.set j hq1,hbr.setCell (p:=⟨w.heap.size,j,none⟩) (Nat.le_refl _) _,?_⟩,by simp [intOf]⟩
  show _ = _
  rw [val_drop_set HJZ.out,HX.out,Nat.add_mul]
  have h:=HH.out
  have h4:4294967296 * val (List.drop (j + 1) zs) * b = 4294967296 * (val (List.drop (j + 1) zs) * b):=Nat.mul_assoc _ _ _
  have h5:Q * b = b * Q:=Nat.mul_comm _ _
  have h6:=HD.out
  have h7:=HT.out
  omega
def RetLeft (w:World) (N s:Nat) (e:Ending) (w':World):Prop :=
  ∃ p n c zs,e = .returned (.slice p n c) ∧ Fr w.heap.size w' p n c zs ∧ Below w.heap.size w w' ∧ Hid (val zs = N * 2 ^ s) ∧ s / 32 + ll N ≤ n ∧ n ≤ s / 32 + ll N + 1 ∧ Hid (n = s / 32 + ll N + 1 → 4294967296 ^ (s / 32 + ll N) ≤ N * 2 ^ s)
theorem left_end0 {zs xs:List Nat} {s cy N:Nat} (hx:xs = lim N) (hc:cy = 0) (h:val zs + cy * 4294967296 ^ (s / 32 + ll N) = 4294967296 ^ (s / 32) * 2 ^ (s % 32) * sm (nd xs) (ll N)):val zs = N * 2 ^ s:=by
 rw [pow_split] at h
 have e:sm (nd xs) (ll N) = N:=by
  rw [← length_lim N,hx]
  exact vLm N
 rw [e,hc] at h
 rw [Nat.mul_comm]; omega
theorem left_end1 {zs xs:List Nat} {s cy N:Nat} (hx:xs = lim N) (hl:zs.length = s / 32 + ll N) (h:val zs + cy * 4294967296 ^ (s / 32 + ll N) = 4294967296 ^ (s / 32) * 2 ^ (s % 32) * sm (nd xs) (ll N)):val (zs ++ [cy]) = N * 2 ^ s:=by
 rw [pow_split] at h
 have e:sm (nd xs) (ll N) = N:=by
  rw [← length_lim N,hx]
  exact vLm N
 rw [e] at h
 rw [val_append,val_single,hl,Nat.mul_comm N, ← h,Nat.mul_comm cy]
set_option maxHeartbeats 2000000 in
theorem left_any {p:Option Addr} {n c:Nat} {xs:List Nat} {w:World} {s:Nat} (hx:Sl w p n c xs) (hs:s ≤ 17592186044416) (hn:n ≤ 4398046511104) :
  Calls Tryz.prog 79 #[.slice p n c,.int .i64 (s:Int)] w (RetLeft w (val xs) s):=by
 have hcap:=hx.cap
 have hle:=hx.le
 unfold maxLen at hcap
 go_enter Tryz.func79,Tryz.ntmps79
 go_wp2_with fail
 refine (trim_any hx).mono ?_
 rintro e w1 ⟨n1,rfl,hx1,hn1,rfl⟩
 have hx1l:=hx1.le
 have HN:Hid (ll (val xs) = n1):=by show _ = _; rw [← hx1.len,length_lim]
 generalize val xs = N at *
 obtain ⟨us,hus⟩:∃ us,us = lim N:=⟨_,rfl⟩
 rw [← hus] at hx1
 have HU:=Lib.hid hus
 clear hus hx
 go_wp2_with (at_make; refine wp_make32c _ rfl _ _ _ rfl Tryz.underlying26 _ _ _ _ (s / 32) (s / 32 + n1 + 3) rfl rfl rfl rfl (by omega) (by omega) w.heap.size w (Below.refl _ _) (Nat.le_refl _) ?_; intro w1 hf1 hb1 hb2 hsz1)
 clear hb1 hsz1
 go_loopw [5,6,22] (fun o cv v wr => ∃ k cy:Nat,k ≤ n1 ∧ v = .int .i64 (k:Int) ∧ cy < 2 ^ (s % 32) ∧ cv = .int .u32 cy ∧ ∃ p2 n2 c2 zs,o = .slice p2 n2 c2 ∧ Fr w.heap.size wr p2 n2 c2 zs ∧ Below w.heap.size w wr ∧ n2 = s / 32 + k ∧ Hid (val zs + cy * 4294967296 ^ (s / 32 + k) = 4294967296 ^ (s / 32) * 2 ^ (s % 32) * sm (nd us) k)) (fun _ _ v _ => n1 - (intOf v).toNat)
 case atStart => exact ⟨0,0,by omega,rfl,Nat.two_pow_pos _,rfl,_,_,_,_,rfl,hf1,hb2,rfl,by show _ = _; simp [sm]; unfold val; exact sm_zero (fun i _ => nd_replicate _ _)⟩
 case round =>
  clear hf1 hb2
  obtain ⟨k,cy,hk,rfl,hcy,rfl,p2,n2,c2,zs,rfl,hf,hbr,hn2,HH⟩:=hrel
  have HN2:=Lib.hid hn2
  have hn3:n2 ≤ s / 32 + k:=by omega
  clear hn2
  by_cases hkn:k < n1
  ·obtain ⟨b1,o1,rfl,hxc⟩:=(hx1.below hbr (Nat.le_refl _)).cell k hkn
   have hX:=hx1.lim1 k
   have ht:s % 32 < 32:=Nat.mod_lt _ (by omega)
   have hor:=or32_shift (X:=nd us k) ht hcy
   have hlt:=shift_lt (X:=nd us k) ht hcy
   have hcl:=carry_lt (t:=s % 32) hX
   have hcw:((nd us k:Nat):Int) * 2 ^ (s % 32) / 4294967296 = ((nd us k * 2 ^ (s % 32) / 4294967296:Nat):Int):=by
    rw [Int.natCast_ediv,Int.natCast_mul,Int.natCast_pow]; rfl
   have hcb:nd us k * 2 ^ (s % 32) / 4294967296 < 4294967296:=by
    have:2 ^ (s % 32) ≤ 2 ^ 32:=Nat.pow_le_pow_right (by omega) (by omega)
    omega
   have hstep:=left_step (X:=nd us k) (by rw [hf.len]; exact HN2.out) HH.out
   have HC:=Lib.hid hcw
   obtain ⟨y,hy⟩:∃ y,y = nd us k * 2 ^ (s % 32) % 4294967296 + cy:=⟨_,rfl⟩
   rw [← hy] at hor hlt hstep
   have HY:=Lib.hid hy
   have HS:=Lib.hid hstep
   obtain ⟨cz,hcz⟩:∃ cz,cz = nd us k * 2 ^ (s % 32) / 4294967296:=⟨_,rfl⟩
   have HCZ:=Lib.hid hcz
   rw [← hcz] at hcb hcl
   clear hy hstep hcw hcz
   have hw1:0 ≤ ((nd us k:Nat):Int) * 2 ^ (s % 32):=by
    have e:((nd us k:Nat):Int) * 2 ^ (s % 32) = ((nd us k * 2 ^ (s % 32):Nat):Int):=by rw [Int.natCast_mul,Int.natCast_pow]; rfl
    rw [e]; omega
   have hw2:((nd us k:Nat):Int) * 2 ^ (s % 32) ≤ 18446744073709551615:=by
    have h1:=HC.out
    have h2:=HCZ.out
    omega
   have hb3:=(Below.refl wr.heap.size wr).alloc (Nat.le_refl _) (.cells #[.int .u32 (y:Int)] 63)
   have hy3:=Sl.single wr y hlt
   have hf3:=hf.below hb3 (Nat.le_refl _)
   have hbr3:=hbr.trans (hb3.mono hbr.size)
   have hsz:=hbr.size
   go_wp2_with (at_builtin; refine wp_append32 _ rfl _ _ _ rfl Tryz.underlying26 w.heap.size _ n2 _ zs rfl hf3 _ 1 _ [y] rfl hy3 (by omega) hbr3 (Nat.le_refl _) (by simp; omega) ?_; intro p4 c4 w4 hf4 hg4 hb4)
   rw [HC.out, ← HCZ.out]
   refine ⟨⟨k + 1,cz,by omega,by go_num,hcl,rfl,_,_,_,_,rfl,hf4,hb4,by rw [HN2.out]; omega,?_⟩,by simp [intOf]; omega⟩
   have h1:=HS.out
   rw [← HCZ.out] at h1
   exact h1
  obtain rfl:k = n1:=by omega
  have hcy2:cy < 4294967296:=by
   have:2 ^ (s % 32) ≤ 2 ^ 32:=Nat.pow_le_pow_right (by omega) (by omega)
   omega
  rcases Nat.eq_zero_or_pos cy with h0 | h0
  ·have H0:=Lib.hid h0
   have hz:((cy:Int) != 0) = false:=by simp [h0]
   clear h0
   go_wp2_with fail
   go_ret
   have h1:=HH.out
   rw [← HN.out] at h1
   refine ⟨p2,n2,c2,zs,rfl,hf,hbr,left_end0 HU.out H0.out h1,by rw [HN.out,HN2.out]; exact Nat.le_refl _,by rw [HN.out,HN2.out]; omega,?_⟩
   intro h2
   rw [HN.out,HN2.out] at h2
   omega
  have hz:((cy:Int) != 0) = true:=by simp; omega
  have hb3:=(Below.refl wr.heap.size wr).alloc (Nat.le_refl _) (.cells #[.int .u32 (cy:Int)] 63)
  have hy3:=Sl.single wr cy hcy2
  have hf3:=hf.below hb3 (Nat.le_refl _)
  have hbr3:=hbr.trans (hb3.mono hbr.size)
  have hsz:=hbr.size
  go_wp2_with (at_builtin; refine wp_append32 _ rfl _ _ _ rfl Tryz.underlying26 w.heap.size _ n2 _ zs rfl hf3 _ 1 _ [cy] rfl hy3 (by omega) hbr3 (Nat.le_refl _) (by simp; omega) ?_; intro p4 c4 w4 hf4 hg4 hb4)
  go_ret
  have h1:=HH.out
  rw [← HN.out] at h1
  have hl:zs.length = s / 32 + ll N:=by rw [hf.len,HN.out,HN2.out]
  refine ⟨p4,n2 + 1,c4,zs ++ [cy],rfl,hf4,hb4,left_end1 HU.out hl h1,by rw [HN.out,HN2.out]; omega,by rw [HN.out,HN2.out]; omega,?_⟩
  intro _
  rw [← left_end1 HU.out hl h1,val_append,val_single,hl]
  have:4294967296 ^ (s / 32 + ll N) * 1 ≤ 4294967296 ^ (s / 32 + ll N) * cy:=Nat.mul_le_mul_left _ h0
  omega
open Go.RowKit
def RetLen (w:World) (k:Nat) (e:Ending) (w':World):Prop:=e = .returned (.int .i64 (k:Int)) ∧ w = w'
set_option maxHeartbeats 400000 in
theorem len_any {p:Option Addr} {n c:Nat} {xs:List Nat} {w:World} (hx:Sl w p n c xs) (hn:n ≤ 17592186044416) :
  Calls Tryz.prog 68 #[.slice p n c] w (RetLen w (blen (val xs))):=by
 obtain ⟨N,hN⟩:∃ N,N = val xs:=⟨_,rfl⟩
 rw [← hN]
 have HV:=Lib.hid hN
 clear hN
 go_enter Tryz.func68,Tryz.ntmps68
 go_wp2_with fail
 refine (trim_any hx).mono ?_
 rintro e w1 ⟨n1,rfl,hx1,hn1,rfl⟩
 rw [← HV.out] at hx1
 have HN:Hid (ll N = n1):=by show _ = _; rw [← hx1.len,length_lim]
 rcases Nat.eq_zero_or_pos N with h0 | h0
 ·subst h0
  obtain rfl:0 = n1:=HN.out
  go_wp2_with fail
  go_ret
  exact ⟨rfl,rfl⟩
 have hb:=blen_lim (N:=N) (by omega)
 have hn0:0 < n1:=by rw [← HN.out]; exact ll_pos (by omega)
 rw [HN.out] at hb
 obtain ⟨k,rfl⟩:∃ k,n1 = k + 1:=⟨n1 - 1,by omega⟩
 rw [Nat.add_sub_cancel] at hb
 have HB:=Lib.hid hb
 clear hb
 obtain ⟨b1,o1,rfl,hxc⟩:=hx1.cell k (by omega)
 have hX:=hx1.lim1 k
 have hl:=blen_le (show nd (lim N) k < 2 ^ 32 from hX)
 generalize nd (lim N) k = X at *
 have hz:((k:Int) + 1 == 0) = false:=by rw [beq_eq_false_iff_ne]; omega
 go_wp2_with fail
 refine (len32_any rfl hX).mono ?_
 rintro e w2 ⟨rfl,rfl⟩
 go_wp2_with fail
 go_ret
 refine ⟨congrArg Ending.returned (congrArg (Value.int IntKind.i64) ?_),rfl⟩
 rw [HB.out]
 omega
def RightAt (w:World) (L M k:Nat) (wr:World):Prop :=
  ∃ zs,Fr w.heap.size wr (some ⟨w.heap.size,0,none⟩) L L zs ∧ Below w.heap.size w wr ∧ Hid (∀ j,j < k → nd zs j = M / 4294967296 ^ j % 4294967296)
theorem rightAt_next {w wr:World} {L M k v:Nat} {zs:List Nat} (hk:k < L) (hf:Fr w.heap.size wr (some ⟨w.heap.size,0,none⟩) L L zs) (hb:Below w.heap.size w wr) (h:Hid (∀ j,j < k → nd zs j = M / 4294967296 ^ j % 4294967296))
  (hv:v = M / 4294967296 ^ k % 4294967296):RightAt w L M (k + 1) (wr.setCell ⟨w.heap.size,k,none⟩ (.int .u32 ((v:Nat):Int))):=by
 refine ⟨zs.set k v,hf.set k (by rw [hv]; exact Nat.mod_lt _ (by omega)),hb.setCell (p:=⟨w.heap.size,k,none⟩) (Nat.le_refl _) _,?_⟩
 intro j hj
 rw [nd_set _ _ _ _ (by rw [hf.len]; exact hk)]
 split
 ·rename_i e; subst e; exact hv
 exact h.out j (by omega)
set_option maxHeartbeats 2000000 in
theorem right_any {p:Option Addr} {n c:Nat} {xs:List Nat} {s:Nat} {w:World} (hx:Sl w p n c xs) (hn:n ≤ 17592186044416) (hs:s ≤ 9223372036854775807) :
  Calls Tryz.prog 81 #[.slice p n c,.int .i64 (s:Int)] w (RetNE w (lim (val xs / 2 ^ s)) 0):=by
 have hcap:=hx.cap
 have hle:=hx.le
 unfold maxLen at hcap
 go_enter Tryz.func81,Tryz.ntmps81
 go_wp2_with fail
 refine (trim_any hx).mono ?_
 rintro e w1 ⟨n1,rfl,hx1,hn1,rfl⟩
 have hx1l:=hx1.le
 have HN:Hid (ll (val xs) = n1):=by show _ = _; rw [← hx1.len,length_lim]
 generalize val xs = N at *
 rcases Nat.lt_or_ge (s / 32) n1 with hq | hq
 ·obtain ⟨b1,o1,rfl,_⟩:=hx1.cell 0 (by omega)
  have hx2:=hx1.drop (q:=s / 32) (by omega)
  have HV:Hid (val ((lim N).drop (s / 32)) = N / 4294967296 ^ (s / 32)):=by
   show _ = _
   rw [val_drop _ _ (lims_lim N) (by rw [hx1.len]; omega),vLm]
  obtain ⟨us,hus⟩:∃ us,us = (lim N).drop (s / 32):=⟨_,rfl⟩
  rw [← hus] at hx2 HV
  clear hus
  have hcq:¬ c = s / 32:=by omega
  obtain ⟨L,hL⟩:∃ L,L = n1 - s / 32:=⟨_,rfl⟩
  rw [← hL] at hx2
  have HL:=Lib.hid hL
  have hL1:n1 - s / 32 = L:=hL.symm
  have hL2:L ≤ n1:=by omega
  have hLc:L ≤ c - s / 32:=by omega
  clear hL
  go_wp2_with (at_make; refine wp_make32 _ rfl _ _ _ rfl Tryz.underlying26 _ _ _ _ L rfl rfl rfl rfl (by omega) w.heap.size w (Below.refl _ _) (Nat.le_refl _) ?_; intro w1 hf1 hb1 hb2 hsz1)
  clear hb1 hsz1
  have H0:RightAt w L (N / 2 ^ s) 0 w1:=⟨_,hf1,hb2,by intro j hj; omega⟩
  clear hf1 hb2
  go_loopw [28] (fun v wr => ∃ k:Nat,k ≤ L ∧ v = .int .i64 (k:Int) ∧ RightAt w L (N / 2 ^ s) k wr) (fun v _ => L - (intOf v).toNat)
  case atStart => exact ⟨0,by omega,rfl,H0⟩
  case round =>
   clear H0
   obtain ⟨k,hk,rfl,zs,hf,hb,HH⟩:=hrel
   by_cases hkL:k < L
   ·obtain ⟨b2,o2,hp2,hxc⟩:=(hx2.below hb (Nat.le_refl _)).cell k hkL
    simp only [Option.some.injEq,Addr.mk.injEq,and_true] at hp2
    obtain ⟨rfl,rfl⟩:=hp2
    have hX:=hx2.lim1 k
    have hzc:=hf.cellAt hkL
    have hzf:=hf.frozenAt k
    have ht:s % 32 < 32:=Nat.mod_lt _ (by omega)
    by_cases hk1:k + 1 < L
    ·obtain ⟨b2,o2,hp2,hyc⟩:=(hx2.below hb (Nat.le_refl _)).cell (k + 1) hk1
     simp only [Option.some.injEq,Addr.mk.injEq,and_true] at hp2
     obtain ⟨rfl,rfl⟩:=hp2
     have hY:=hx2.lim1 (k + 1)
     have hor:=or64' hY hX
     go_wp2_with fail
     rw [right_cast]
     refine ⟨⟨k + 1,by omega,by go_num,rightAt_next hkL hf hb HH ?_⟩,by simp [intOf]; omega⟩
     rw [right_div N s]
     exact right_digit ht (nd_of_val hx2.lims HV.out k) (nd_of_val hx2.lims HV.out (k + 1))
    go_wp2_with fail
    rw [right_cast0]
    refine ⟨⟨k + 1,by omega,by go_num,rightAt_next hkL hf hb HH ?_⟩,by simp [intOf]; omega⟩
    rw [right_div N s]
    have h0:(0:Nat) = N / 4294967296 ^ (s / 32) / 4294967296 ^ (k + 1) % 4294967296:=by
     rw [← nd_of_val hx2.lims HV.out (k + 1),nd_lt_len (by rw [hx2.len]; omega)]
    have:=right_digit ht (nd_of_val hx2.lims HV.out k) h0
    rw [← this,Nat.zero_mul,Nat.zero_add]
   obtain rfl:k = L:=by omega
   go_wp2_with fail
   refine (own_any hf.sl (by omega)).mono ?_
   have e:val zs = N / 2 ^ s:=by
    refine right_end (by rw [hf.len]; exact HH.out) ?_
    rw [right_div N s,hf.len]
    have h1:=val_lt hx2.lims
    rw [HV.out,hx2.len] at h1
    exact Nat.lt_of_le_of_lt (Nat.div_le_self _ _) h1
   rw [e]
   rintro e w2 ⟨p2,n2,c2,rfl,hf2,hb2⟩
   go_wp2_with fail
   go_ret2
   exact ⟨_,_,_,rfl,hf2.mono hb.size,hb.trans (hb2.mono hb.size)⟩
 go_wp2_with fail
 go_ret2
 have e:N / 2 ^ s = 0:=by
  apply Nat.div_eq_of_lt
  have h1:=lt_ll N
  rw [HN.out] at h1
  have h2:=pow_le hq
  have h3:=pow_split s
  have h4:4294967296 ^ (s / 32) * 1 ≤ 4294967296 ^ (s / 32) * 2 ^ (s % 32):=Nat.mul_le_mul_left _ (Nat.two_pow_pos _)
  omega
 rw [e]
 exact ⟨_,_,_,rfl,Fr.nil _ _,Below.refl _ _⟩
open Go.RowKit
def RetTE (w:World) (Q R:Nat) (E:Int) (e:Ending) (w':World):Prop :=
  ∃ p n c q m d,e = .returned (.tuple #[.slice p n c,.slice q m d,.int .i64 E]) ∧ Fr w.heap.size w' p n c (lim Q) ∧ Fr w.heap.size w' q m d (lim R) ∧ Below w.heap.size w w'
theorem lim_none:lim 0 = []:=List.eq_nil_of_length_eq_zero (by rw [length_lim]; rfl)
theorem cmpN_ge0 {a b:Nat} (h:b ≤ a):0 ≤ cmpN a b:=by unfold cmpN; rw [if_neg (by omega)]; split <;> omega
theorem one_limb {N:Nat} (h:ll N = 1):nd (lim N) 0 = N:=by
  have h1:=vLm N
  have h2:(lim N).length = 1:=by rw [length_lim,h]
  obtain ⟨x,hx⟩:=List.length_eq_one_iff.1 h2
  rw [hx,val_single] at h1
  rw [hx]
  exact h1
set_option maxHeartbeats 2000000 in
theorem div_one {p q:Option Addr} {n m c d:Nat} {xs ys:List Nat} {w:World} (hx:Sl w p n c xs) (hy:Sl w q m d ys) (hn:n ≤ 1099511627776) (hm:m ≤ 1099511627776) (h0:val ys ≠ 0) (h1b:ll (val ys) = 1) (hge:val ys ≤ val xs) :
  Calls Tryz.prog 80 #[.slice p n c,.slice q m d] w (RetTE w (val xs / val ys) (val xs % val ys) 0):=by
 go_enter Tryz.func80,Tryz.ntmps80
 go_wp2_with fail
 refine (trim_any hx).mono ?_
 rintro e w1 ⟨n1,rfl,hx1,hn1,rfl⟩
 go_wp2_with fail
 refine (trim_any hy).mono ?_
 rintro e w1 ⟨m1,rfl,hy1,hm1,rfl⟩
 have hn2:n1 ≤ 1099511627776:=by omega
 have hm2:m1 ≤ 1099511627776:=by omega
 have HXL:Hid (ll (val xs) = n1):=by show _ = _; rw [← hx1.len,length_lim]
 have HYL:Hid (ll (val ys) = m1):=by show _ = _; rw [← hy1.len,length_lim]
 have hm0:0 < m1:=by rw [← HYL.out]; exact ll_pos h0
 have HX:Hid (val (lim (val xs)) = val xs):=vLm _
 have HY:Hid (val (lim (val ys)) = val ys):=vLm _
 have HONE:Hid (ll (val ys) = 1 → nd (lim (val ys)) 0 = val ys):=one_limb
 have HNO:=Lib.hid lim_none
 generalize lim (val xs) = us at *
 generalize lim (val ys) = vs at *
 generalize val xs = A at *
 generalize val ys = C at *
 have hz:((m1:Int) == 0) = false:=by simp; omega
 clear hn1 hm1 hn hm
 go_wp2_with fail
 refine (cmp_any hx1 hy1).mono ?_
 rw [HX.out,HY.out]
 have h1:m1 = 1:=by rw [← HYL.out]; exact h1b
 have hcg:=cmpN_ge0 hge
 generalize cmpN A C = z at *
 have hz2:decide (z < 0) = false:=by simp; omega
 rintro e w2 ⟨rfl,hb2⟩
 clear hcg
 have hz3:((m1:Int) == 1) = true:=by simp; omega
 obtain ⟨b1,o1,rfl,hyc⟩:=(hy1.below hb2 (Nat.le_refl _)).cell 0 (by omega)
 rw [Nat.add_zero] at hyc
 have hY:=hy1.lim1 0
 have hbv:=HONE.out (by rw [HYL.out,h1])
 rw [hbv] at hyc hY
 clear hbv h1
 go_wp2_with fail
 refine (short_any (hx1.below hb2 (Nat.le_refl _)) hY (by omega) (by omega)).mono ?_
 rw [HX.out]
 rintro e w3 ⟨p3,n3,c3,r,rfl,hf3,hb3,HR,hr⟩
 go_wp2_with fail
 refine (of_any (N:=r) rfl (by omega)).mono ?_
 rw [HR.out]
 rintro e w4 ⟨p4,n4,c4,rfl,hf4,hb4⟩
 go_wp2_with fail
 go_ret3
 have hb23:=hb2.trans (hb3.mono hb2.size)
 exact ⟨_,_,_,_,_,_,rfl,(hf3.below hb4 (Nat.le_refl _)).mono hb2.size,hf4.mono hb23.size,hb23.trans (hb4.mono hb23.size)⟩
open Go.RowKit
theorem Sl.lln {w:World} {p:Option Addr} {n c N:Nat} (h:Sl w p n c (lim N)):n = ll N:=by rw [← h.len,length_lim]
def RetB (w:World) (b:Bool) (e:Ending) (w':World):Prop:=e = .returned (.bool b) ∧ Below w.heap.size w w'
set_option maxHeartbeats 400000 in
theorem limb_any {p:Option Addr} {n c:Nat} {xs:List Nat} {w:World} {i:Nat} {I:Int} (hI:I = (i:Int)) (hx:Sl w p n c xs) (hi:i ≤ 9223372036854775807) :
  Calls Tryz.prog 44 #[.slice p n c,.int .i64 I] w fun e w' => e = .returned (.int .u64 ((nd xs i:Nat):Int)) ∧ w = w':=by
 subst hI
 have hcap:=hx.cap
 have hle:=hx.le
 unfold maxLen at hcap
 rcases Nat.lt_or_ge i n with h | h
 ·obtain ⟨b,off,rfl,hc⟩:=hx.cell i h
  have hX:=hx.lim1 i
  go_enter Tryz.func44,Tryz.ntmps44
  go_wp2_with fail
  go_ret
  exact ⟨rfl,rfl⟩
 have HZ:Hid (nd xs i = 0):=nd_lt_len (by rw [hx.len]; exact h)
 go_enter Tryz.func44,Tryz.ntmps44
 go_wp2_with fail
 go_ret
 exact ⟨by rw [HZ.out]; rfl,rfl⟩
def Filling (w:World) (g L:Nat) (f:Nat → Nat) (k:Nat) (wr:World):Prop :=
  ∃ zs,Fr w.heap.size wr (some ⟨g,0,none⟩) L L zs ∧ Below w.heap.size w wr ∧ Hid (∀ j,j < k → nd zs j = f j)
theorem filling_next {w wr:World} {g L k v:Nat} {f:Nat → Nat} {zs:List Nat} (hk:k < L) (hf:Fr w.heap.size wr (some ⟨g,0,none⟩) L L zs) (hb:Below w.heap.size w wr) (h:Hid (∀ j,j < k → nd zs j = f j))
  (hv:v = f k) (hv2:v < 4294967296):Filling w g L f (k + 1) (wr.setCell ⟨g,k,none⟩ (.int .u32 ((v:Nat):Int))):=by
 refine ⟨zs.set k v,hf.set k hv2,hb.setCell (p:=⟨g,k,none⟩) hf.block.1 _,?_⟩
 intro j hj
 rw [nd_set _ _ _ _ (by rw [hf.len]; exact hk)]
 split
 ·rename_i e; subst e; exact hv
 exact h.out j (by omega)
set_option maxHeartbeats 1000000 in
theorem rnorm_any {p:Option Addr} {n c:Nat} {xs:List Nat} {w:World} (hx:Sl w p n c xs) (hn:n ≤ 17592186044416) :
  Calls Tryz.prog 72 #[.slice p n c] w (RetN w (lim (val xs))):=by
 have HN:=Lib.hid (nrm_eq hx.lims)
 have htl:=tl_le xs n
 have HL:=Lib.hid hx.len
 have hcap:=hx.cap
 have hle:=hx.le
 unfold maxLen at hcap
 go_enter Tryz.func72,Tryz.ntmps72
 go_wp2_with fail
 go_loop [3] (fun v => ∃ k:Nat,k ≤ n ∧ Hid (tl xs k = tl xs n) ∧ v = .int .i64 k) (fun v => (intOf v).toNat)
 case atStart => exact ⟨n,Nat.le_refl _,rfl,rfl⟩
 case round =>
  obtain ⟨k,hk,Ht,rfl⟩:=hrel
  have main:∀ m,m ≤ n → m = tl xs n → Hid (m = tl xs n):=fun _ _ h => h
  rcases Nat.eq_zero_or_pos k with rfl | hk0
  ·have e:tl xs n = 0:=by rw [← Ht.out]; rfl
   have HE:=Lib.hid e
   clear e
   go_wp2_with (at_make; refine wp_make32 _ rfl _ _ _ rfl Tryz.underlying26 _ _ _ _ 0 rfl rfl rfl rfl (by omega) w.heap.size w (Below.refl _ _) (Nat.le_refl _) ?_; intro w1 hf1 hb1 hb2 hsz1)
   go_loopw [5] (fun v wr => v = .int .i64 0 ∧ wr = w1) (fun _ _ => 0)
   case atStart => exact ⟨rfl,rfl⟩
   case round =>
    obtain ⟨rfl,rfl⟩:=hrel
    go_wp2_with fail
    go_ret
    have e2:=HN.out
    rw [HL.out,HE.out] at e2
    rw [← e2]
    exact ⟨_,_,_,rfl,hf1,hb2⟩
  obtain ⟨j,rfl⟩:∃ j,k = j + 1:=⟨k - 1,by omega⟩
  obtain ⟨b,off,rfl,hc1⟩:=hx.cell j (by omega)
  by_cases h0:nd xs j = 0
  ·have hz:((nd xs j:Int) == 0) = true:=by simp [h0]
   have H0:=Lib.hid h0
   clear h0
   go_wp2_with fail
   refine ⟨⟨j,by omega,?_,rfl⟩,by simp [intOf]⟩
   show _ = _
   rw [← Ht.out]; simp [tl,H0.out]
  have hz:((nd xs j:Int) == 0) = false:=by simp; omega
  have H0:=Lib.hid h0
  clear h0
  have e:tl xs n = j + 1:=by rw [← Ht.out]; simp [tl,H0.out]
  have HE:=Lib.hid e
  clear e htl
  go_wp2_with (at_make; refine wp_make32 _ rfl _ _ _ rfl Tryz.underlying26 _ _ _ _ (j + 1) rfl rfl rfl rfl (by omega) w.heap.size w (Below.refl _ _) (Nat.le_refl _) ?_; intro w1 hf1 hb1 hb2 hsz1)
  have HF:Filling w w.heap.size (j + 1) (nd xs) 0 w1:=⟨_,hf1,hb2,by intro i hi; omega⟩
  clear hf1 hb1 hb2 hsz1
  go_loopw [5] (fun v wr => ∃ i:Nat,i ≤ j + 1 ∧ v = .int .i64 (i:Int) ∧ Filling w w.heap.size (j + 1) (nd xs) i wr) (fun v _ => j + 1 - (intOf v).toNat)
  case atStart => exact ⟨0,by omega,rfl,HF⟩
  case round =>
   clear HF hc1
   obtain ⟨i,hi,rfl,zs,hf,hb,HH⟩:=hrel
   by_cases hij:i < j + 1
   ·obtain ⟨b2,o2,hp,hxc⟩:=(hx.below hb (Nat.le_refl _)).cell i (by omega)
    simp only [Option.some.injEq,Addr.mk.injEq,and_true] at hp
    obtain ⟨rfl,rfl⟩:=hp
    have hzc:=hf.cellAt hij
    have hzf:=hf.frozenAt i
    have hX:=hx.lim1 i
    go_wp2_with fail
    exact ⟨⟨i + 1,by omega,by go_num,filling_next hij hf hb HH rfl hX⟩,by simp [intOf]; omega⟩
   obtain rfl:i = j + 1:=by omega
   go_wp2_with fail
   go_ret
   have e2:zs = lim (val xs):=by
    rw [← HN.out,HL.out,HE.out]
    apply nd_ext
    ·rw [hf.len]; simp [HL.out]; omega
    intro i hi
    rw [hf.len] at hi
    rw [nd_take,if_pos hi]
    exact HH.out i hi
   rw [e2] at hf
   exact ⟨_,_,_,rfl,hf,hb⟩
set_option maxHeartbeats 400000 in
theorem zero_yes {p:Option Addr} {n c:Nat} {xs:List Nat} {w:World} (hx:Sl w p n c xs) (h0:val xs = 0) :
  Calls Tryz.prog 91 #[.slice p n c] w (RetB w true):=by
 have hall:∀ i,nd xs i = 0:=by
  have h1:=val_eq_zero h0 hx.lims
  intro i
  by_cases hi:i < xs.length
  ·exact tl_zero xs xs.length i (by omega) hi
  exact nd_lt_len (by omega)
 have HA:=Lib.hid hall
 clear hall
 have hcap:=hx.cap
 have hle:=hx.le
 unfold maxLen at hcap
 go_enter Tryz.func91,Tryz.ntmps91
 go_wp2_with fail
 go_loop [7] (fun v => ∃ k:Nat,k ≤ n ∧ v = .int .i64 k) (fun v => n - (intOf v).toNat)
 case atStart => exact ⟨0,Nat.zero_le _,rfl⟩
 case round =>
  obtain ⟨k,hk,rfl⟩:=hrel
  by_cases hkn:k < n
  ·obtain ⟨b,off,rfl,hc⟩:=hx.cell k hkn
   rw [HA.out k] at hc
   have hc2:w.cell? ⟨b,off + k,none⟩ = some (.int .u32 0):=hc
   clear hc
   go_wp2_with fail
   exact ⟨⟨k + 1,by omega,by go_num⟩,by simp [intOf]; omega⟩
  go_wp2_with fail
  go_ret
  exact ⟨rfl,Below.refl _ _⟩
set_option maxHeartbeats 400000 in
theorem zero_no {p:Option Addr} {n c:Nat} {xs:List Nat} {w:World} (hx:Sl w p n c xs) (h0:val xs ≠ 0) :
  Calls Tryz.prog 91 #[.slice p n c] w (RetB w false):=by
 have hcap:=hx.cap
 have hle:=hx.le
 unfold maxLen at hcap
 have HL:=Lib.hid hx.len
 go_enter Tryz.func91,Tryz.ntmps91
 go_wp2_with fail
 go_loop [7] (fun v => ∃ k:Nat,k ≤ n ∧ v = .int .i64 k ∧ Hid (∀ j,j < k → nd xs j = 0)) (fun v => n - (intOf v).toNat)
 case atStart => exact ⟨0,Nat.zero_le _,rfl,by intro j hj; omega⟩
 case round =>
  obtain ⟨k,hk,rfl,HJ⟩:=hrel
  by_cases hkn:k < n
  ·obtain ⟨b,off,rfl,hc⟩:=hx.cell k hkn
   by_cases hz:nd xs k = 0
   ·have HZ:=Lib.hid hz
    have hz2:((nd xs k:Int) != 0) = false:=by simp [hz]
    clear hz
    go_wp2_with fail
    refine ⟨⟨k + 1,by omega,by go_num,fun j hj => ?_⟩,by simp [intOf]; omega⟩
    by_cases e:j = k
    ·subst e; exact HZ.out
    exact HJ.out j (by omega)
   have hz2:((nd xs k:Int) != 0) = true:=by simp; omega
   go_wp2_with fail
   go_ret
   exact ⟨rfl,Below.refl _ _⟩
  exfalso
  apply h0
  obtain rfl:k = n:=by omega
  unfold val
  rw [HL.out]
  exact sm_zero HJ.out
set_option maxHeartbeats 400000 in
theorem same_yes {p q:Option Addr} {n m c d:Nat} {xs:List Nat} {w:World} (hx:Sl w p n c xs) (hy:Sl w q m d xs) :
  Calls Tryz.prog 63 #[.slice p n c,.slice q m d] w (RetB w true):=by
 obtain rfl:n = m:=by rw [← hx.len, ← hy.len]
 have hcap:=hx.cap
 have hle:=hx.le
 have hle2:=hy.le
 unfold maxLen at hcap
 go_enter Tryz.func63,Tryz.ntmps63
 go_wp2_with fail
 go_loopw [13] (fun v wr => ∃ k:Nat,k ≤ n ∧ v = .int .i64 k ∧ Below w.heap.size w wr) (fun v _ => n - (intOf v).toNat)
 case atStart => exact ⟨0,Nat.zero_le _,rfl,Below.refl _ _⟩
 case round =>
  obtain ⟨k,hk,rfl,hb⟩:=hrel
  by_cases hkn:k < n
  ·obtain ⟨b,off,rfl,hc⟩:=(hx.below hb (Nat.le_refl _)).cell k hkn
   obtain ⟨b2,off2,rfl,hc2⟩:=(hy.below hb (Nat.le_refl _)).cell k hkn
   have hi1:(k:Int) < (n:Int):=by omega
   generalize nd xs k = X at *
   go_wp2_with fail
   go_quiet (fail)
   go_wp2_with fail
   exact ⟨⟨k + 1,by omega,by go_num,hb.trans (below_drewN (Below.refl _ _) _)⟩,by simp [intOf]; omega⟩
  go_wp2_with fail
  go_ret
  exact ⟨rfl,hb⟩
open Go.RowKit
theorem norm_len {w w':World} {B:Nat} {p q:Option Addr} {n c m d:Nat} {xs:List Nat} (hx:Sl w p n c xs) (h:Fr B w' q m d (lim (val xs))):m ≤ n:=by
  rw [h.sl.lln, ← tl_ll hx.lims,hx.len]; exact tl_le _ _
open Go.RowKit
theorem radd_end {Z A C s M:Nat} (h:Z + s * 4294967296 ^ (M + 1) = A + C) (hA:A < 4294967296 ^ M) (hC:C < 4294967296 ^ M):Z = A + C:=by
 rw [Nat.pow_succ] at h
 rcases Nat.eq_zero_or_pos s with rfl | h0
 ·omega
 have:1 * (4294967296 ^ M * 4294967296) ≤ s * (4294967296 ^ M * 4294967296):=Nat.mul_le_mul_right _ h0
 omega
set_option maxHeartbeats 1000000 in
theorem rcmp_lt {p q:Option Addr} {n m c d:Nat} {xs ys:List Nat} {w:World} (hx:Sl w p n c xs) (hy:Sl w q m d ys) (h:n < m) :
  Calls Tryz.prog 13 #[.slice p n c,.slice q m d] w fun e w' => e = .returned (.int .i64 (cmpN (val xs) (val ys))) ∧ w = w':=by
 have hcap:=hx.cap
 have hle:=hx.le
 have hcap2:=hy.cap
 have hle2:=hy.le
 unfold maxLen at hcap hcap2
 obtain ⟨z,hz⟩:∃ z,z = cmpN (val xs) (val ys):=⟨_,rfl⟩
 rw [← hz]
 have HZ:=Lib.hid hz
 clear hz
 have HX:=Lib.hid hx.lims
 have HY:=Lib.hid hy.lims
 have HXL:=Lib.hid hx.len
 have HYL:=Lib.hid hy.len
 have hd:decide (n < m) = true:=by simp; omega
 go_enter Tryz.func13,Tryz.ntmps13
 go_wp2_with fail
 go_loop [6] (fun v => ∃ k:Nat,k ≤ m ∧ v = .int .i64 ((k:Int) - 1) ∧ Hid (∀ j,k ≤ j → nd xs j = nd ys j)) (fun v => (intOf v + 1).toNat)
 case atStart =>
  refine ⟨m,by omega,rfl,fun j hj => ?_⟩
  rw [nd_lt_len (by rw [HXL.out]; omega),nd_lt_len (by rw [HYL.out]; omega)]
 case round =>
  obtain ⟨k,hk,rfl,HJ⟩:=hrel
  rcases k with _ | j
  ·go_wp2_with fail
   go_ret
   exact ⟨by rw [HZ.out,cmpN_eq (val_eq_of fun j => HJ.out j (Nat.zero_le _))]; rfl,rfl⟩
  have ej:((j + 1:Nat):Int) - 1 = (j:Int):=by omega
  rw [ej]
  clear ej
  have hX:=hx.lim1 j
  have hY:=hy.lim1 j
  go_wp2_with fail
  refine (limb_any rfl hx (by omega)).mono ?_
  rintro e w1 ⟨rfl,rfl⟩
  go_wp2_with fail
  refine (limb_any rfl hy (by omega)).mono ?_
  rintro e w1 ⟨rfl,rfl⟩
  rcases Nat.lt_trichotomy (nd xs j) (nd ys j) with hlt | heq | hgt
  ·go_wp2_with fail
   go_ret
   exact ⟨by rw [HZ.out,cmpN_lt (val_lt_of HX.out (fun i hi => HJ.out i (by omega)) hlt)]; rfl,rfl⟩
  ·have HE:=Lib.hid heq
   have h1:¬ (nd xs j < nd ys j):=by omega
   have h2:¬ (nd ys j < nd xs j):=by omega
   clear heq
   go_wp2_with fail
   refine (limb_any rfl hx (by omega)).mono ?_
   rintro e w1 ⟨rfl,rfl⟩
   go_wp2_with fail
   refine (limb_any rfl hy (by omega)).mono ?_
   rintro e w1 ⟨rfl,rfl⟩
   go_wp2_with fail
   refine ⟨⟨j,by omega,rfl,fun i hi => ?_⟩,by simp [intOf]⟩
   by_cases e:i = j
   ·subst e; exact HE.out
   exact HJ.out i (by omega)
  go_wp2_with fail
  refine (limb_any rfl hx (by omega)).mono ?_
  rintro e w1 ⟨rfl,rfl⟩
  go_wp2_with fail
  refine (limb_any rfl hy (by omega)).mono ?_
  rintro e w1 ⟨rfl,rfl⟩
  go_wp2_with fail
  go_ret
  exact ⟨by rw [HZ.out,cmpN_gt (val_lt_of HY.out (fun i hi => (HJ.out i (by omega)).symm) hgt)]; rfl,rfl⟩
set_option maxHeartbeats 1000000 in
theorem rcmp_ge {p q:Option Addr} {n m c d:Nat} {xs ys:List Nat} {w:World} (hx:Sl w p n c xs) (hy:Sl w q m d ys) (h:m ≤ n) :
  Calls Tryz.prog 13 #[.slice p n c,.slice q m d] w fun e w' => e = .returned (.int .i64 (cmpN (val xs) (val ys))) ∧ w = w':=by
 have hcap:=hx.cap
 have hle:=hx.le
 have hcap2:=hy.cap
 have hle2:=hy.le
 unfold maxLen at hcap hcap2
 obtain ⟨z,hz⟩:∃ z,z = cmpN (val xs) (val ys):=⟨_,rfl⟩
 rw [← hz]
 have HZ:=Lib.hid hz
 clear hz
 have HX:=Lib.hid hx.lims
 have HY:=Lib.hid hy.lims
 have HXL:=Lib.hid hx.len
 have HYL:=Lib.hid hy.len
 have hd:decide (n < m) = false:=by simp; omega
 go_enter Tryz.func13,Tryz.ntmps13
 go_wp2_with fail
 go_loop [6] (fun v => ∃ k:Nat,k ≤ n ∧ v = .int .i64 ((k:Int) - 1) ∧ Hid (∀ j,k ≤ j → nd xs j = nd ys j)) (fun v => (intOf v + 1).toNat)
 case atStart =>
  refine ⟨n,by omega,rfl,fun j hj => ?_⟩
  rw [nd_lt_len (by rw [HXL.out]; omega),nd_lt_len (by rw [HYL.out]; omega)]
 case round =>
  obtain ⟨k,hk,rfl,HJ⟩:=hrel
  rcases k with _ | j
  ·go_wp2_with fail
   go_ret
   exact ⟨by rw [HZ.out,cmpN_eq (val_eq_of fun j => HJ.out j (Nat.zero_le _))]; rfl,rfl⟩
  have ej:((j + 1:Nat):Int) - 1 = (j:Int):=by omega
  rw [ej]
  clear ej
  have hX:=hx.lim1 j
  have hY:=hy.lim1 j
  go_wp2_with fail
  refine (limb_any rfl hx (by omega)).mono ?_
  rintro e w1 ⟨rfl,rfl⟩
  go_wp2_with fail
  refine (limb_any rfl hy (by omega)).mono ?_
  rintro e w1 ⟨rfl,rfl⟩
  rcases Nat.lt_trichotomy (nd xs j) (nd ys j) with hlt | heq | hgt
  ·go_wp2_with fail
   go_ret
   exact ⟨by rw [HZ.out,cmpN_lt (val_lt_of HX.out (fun i hi => HJ.out i (by omega)) hlt)]; rfl,rfl⟩
  ·have HE:=Lib.hid heq
   have h1:¬ (nd xs j < nd ys j):=by omega
   have h2:¬ (nd ys j < nd xs j):=by omega
   clear heq
   go_wp2_with fail
   refine (limb_any rfl hx (by omega)).mono ?_
   rintro e w1 ⟨rfl,rfl⟩
   go_wp2_with fail
   refine (limb_any rfl hy (by omega)).mono ?_
   rintro e w1 ⟨rfl,rfl⟩
   go_wp2_with fail
   refine ⟨⟨j,by omega,rfl,fun i hi => ?_⟩,by simp [intOf]⟩
   by_cases e:i = j
   ·subst e; exact HE.out
   exact HJ.out i (by omega)
  go_wp2_with fail
  refine (limb_any rfl hx (by omega)).mono ?_
  rintro e w1 ⟨rfl,rfl⟩
  go_wp2_with fail
  refine (limb_any rfl hy (by omega)).mono ?_
  rintro e w1 ⟨rfl,rfl⟩
  go_wp2_with fail
  go_ret
  exact ⟨by rw [HZ.out,cmpN_gt (val_lt_of HY.out (fun i hi => (HJ.out i (by omega)).symm) hgt)]; rfl,rfl⟩
set_option maxHeartbeats 1000000 in
theorem radd_lt {p q:Option Addr} {n m c d:Nat} {xs ys:List Nat} {w:World} (hx:Sl w p n c xs) (hy:Sl w q m d ys) (hn:n ≤ 8796093022208) (hm:m ≤ 8796093022208) (h:n < m) :
  Calls Tryz.prog 116 #[.slice p n c,.slice q m d] w (RetN w (lim (val xs + val ys))):=by
 have HXL:=Lib.hid hx.len
 have HYL:=Lib.hid hy.len
 have HX:=Lib.hid hx.lims
 have HY:=Lib.hid hy.lims
 have hd:decide (n < m) = true:=by simp; omega
 go_enter Tryz.func116,Tryz.ntmps116
 go_wp2_with (at_make; refine wp_make32 _ rfl _ _ _ rfl Tryz.underlying26 _ _ _ _ (m + 1) rfl rfl rfl rfl (by omega) w.heap.size w (Below.refl _ _) (Nat.le_refl _) ?_; intro w1 hf1 hb1 hb2 hsz1)
 clear hb1 hsz1
 go_loopw [7,23] (fun cv v wr => ∃ k s:Nat,k ≤ m + 1 ∧ v = .int .i64 (k:Int) ∧ s ≤ 1 ∧ cv = .int .u64 s ∧ ∃ zs,Fr w.heap.size wr (some ⟨w.heap.size,0,none⟩) (m + 1) (m + 1) zs ∧ Below w.heap.size w wr ∧ Hid (sm (nd zs) k + s * 4294967296 ^ k = sm (nd xs) k + sm (nd ys) k)) (fun _ v _ => m + 1 - (intOf v).toNat)
 case atStart => exact ⟨0,0,by omega,rfl,by omega,rfl,_,hf1,hb2,rfl⟩
 case round =>
  clear hf1 hb2
  obtain ⟨k,s,hk,rfl,hs,rfl,zs,hf,hb,HH⟩:=hrel
  by_cases hkL:k < m + 1
  ·have hX:=hx.lim1 k
   have hY:=hy.lim1 k
   have hzc:=hf.cellAt hkL
   have hzf:=hf.frozenAt k
   have hx2:=hx.below hb (Nat.le_refl _)
   have hy2:=hy.below hb (Nat.le_refl _)
   go_wp2_with fail
   refine (limb_any rfl hx2 (by omega)).mono ?_
   rintro e w2 ⟨rfl,rfl⟩
   go_wp2_with fail
   refine (limb_any rfl hy2 (by omega)).mono ?_
   rintro e w2 ⟨rfl,rfl⟩
   go_wp2_with fail
   refine ⟨⟨k + 1,(nd xs k + nd ys k + s) / 4294967296,by omega,by go_num,by omega,rfl,_,hf.set k (v:=(nd xs k + nd ys k + s) % 4294967296) (Nat.mod_lt _ (by omega)),hb.setCell (p:=⟨w.heap.size,k,none⟩) (Nat.le_refl _) _,add_step hkL hf.len HH.out⟩,by simp [intOf]; omega⟩
  obtain rfl:k = m + 1:=by omega
  go_wp2_with fail
  refine (rnorm_any hf.sl (by omega)).mono ?_
  rintro e w2 ⟨p2,n2,c2,rfl,hf2,hb2⟩
  go_wp2_with fail
  go_ret
  have e:val zs = val xs + val ys:=by
   have h1:=HH.out
   rw [val_le (xs:=xs) (by rw [HXL.out]; omega),val_le (xs:=ys) (by rw [HYL.out]; omega),val_le (xs:=zs) (by rw [hf.len]; exact Nat.le_refl _)] at h1
   exact radd_end h1 (by have:=val_lt HX.out; rw [HXL.out] at this; exact Nat.lt_of_lt_of_le this (pow_le (by omega))) (by have:=val_lt HY.out; rw [HYL.out] at this; exact Nat.lt_of_lt_of_le this (pow_le (by omega)))
  rw [e] at hf2
  exact ⟨_,_,_,rfl,hf2.mono hb.size,hb.trans (hb2.mono hb.size)⟩
set_option maxHeartbeats 1000000 in
theorem radd_ge {p q:Option Addr} {n m c d:Nat} {xs ys:List Nat} {w:World} (hx:Sl w p n c xs) (hy:Sl w q m d ys) (hn:n ≤ 8796093022208) (_hm:m ≤ 8796093022208) (h:m ≤ n) :
  Calls Tryz.prog 116 #[.slice p n c,.slice q m d] w (RetN w (lim (val xs + val ys))):=by
 have HXL:=Lib.hid hx.len
 have HYL:=Lib.hid hy.len
 have HX:=Lib.hid hx.lims
 have HY:=Lib.hid hy.lims
 have hd:decide (n < m) = false:=by simp; omega
 go_enter Tryz.func116,Tryz.ntmps116
 go_wp2_with (at_make; refine wp_make32 _ rfl _ _ _ rfl Tryz.underlying26 _ _ _ _ (n + 1) rfl rfl rfl rfl (by omega) w.heap.size w (Below.refl _ _) (Nat.le_refl _) ?_; intro w1 hf1 hb1 hb2 hsz1)
 clear hb1 hsz1
 go_loopw [7,23] (fun cv v wr => ∃ k s:Nat,k ≤ n + 1 ∧ v = .int .i64 (k:Int) ∧ s ≤ 1 ∧ cv = .int .u64 s ∧ ∃ zs,Fr w.heap.size wr (some ⟨w.heap.size,0,none⟩) (n + 1) (n + 1) zs ∧ Below w.heap.size w wr ∧ Hid (sm (nd zs) k + s * 4294967296 ^ k = sm (nd xs) k + sm (nd ys) k)) (fun _ v _ => n + 1 - (intOf v).toNat)
 case atStart => exact ⟨0,0,by omega,rfl,by omega,rfl,_,hf1,hb2,rfl⟩
 case round =>
  clear hf1 hb2
  obtain ⟨k,s,hk,rfl,hs,rfl,zs,hf,hb,HH⟩:=hrel
  by_cases hkL:k < n + 1
  ·have hX:=hx.lim1 k
   have hY:=hy.lim1 k
   have hzc:=hf.cellAt hkL
   have hzf:=hf.frozenAt k
   have hx2:=hx.below hb (Nat.le_refl _)
   have hy2:=hy.below hb (Nat.le_refl _)
   go_wp2_with fail
   refine (limb_any rfl hx2 (by omega)).mono ?_
   rintro e w2 ⟨rfl,rfl⟩
   go_wp2_with fail
   refine (limb_any rfl hy2 (by omega)).mono ?_
   rintro e w2 ⟨rfl,rfl⟩
   go_wp2_with fail
   refine ⟨⟨k + 1,(nd xs k + nd ys k + s) / 4294967296,by omega,by go_num,by omega,rfl,_,hf.set k (v:=(nd xs k + nd ys k + s) % 4294967296) (Nat.mod_lt _ (by omega)),hb.setCell (p:=⟨w.heap.size,k,none⟩) (Nat.le_refl _) _,add_step hkL hf.len HH.out⟩,by simp [intOf]; omega⟩
  obtain rfl:k = n + 1:=by omega
  go_wp2_with fail
  refine (rnorm_any hf.sl (by omega)).mono ?_
  rintro e w2 ⟨p2,n2,c2,rfl,hf2,hb2⟩
  go_wp2_with fail
  go_ret
  have e:val zs = val xs + val ys:=by
   have h1:=HH.out
   rw [val_le (xs:=xs) (by rw [HXL.out]; omega),val_le (xs:=ys) (by rw [HYL.out]; omega),val_le (xs:=zs) (by rw [hf.len]; exact Nat.le_refl _)] at h1
   exact radd_end h1 (by have:=val_lt HX.out; rw [HXL.out] at this; exact Nat.lt_of_lt_of_le this (pow_le (by omega))) (by have:=val_lt HY.out; rw [HYL.out] at this; exact Nat.lt_of_lt_of_le this (pow_le (by omega)))
  rw [e] at hf2
  exact ⟨_,_,_,rfl,hf2.mono hb.size,hb.trans (hb2.mono hb.size)⟩
theorem rcmp_any {p q:Option Addr} {n m c d:Nat} {xs ys:List Nat} {w:World} (hx:Sl w p n c xs) (hy:Sl w q m d ys) :
  Calls Tryz.prog 13 #[.slice p n c,.slice q m d] w fun e w' => e = .returned (.int .i64 (cmpN (val xs) (val ys))) ∧ w = w':=by
 rcases Nat.lt_or_ge n m with h | h
 ·exact rcmp_lt hx hy h
 exact rcmp_ge hx hy h
theorem radd_any {p q:Option Addr} {n m c d:Nat} {xs ys:List Nat} {w:World} (hx:Sl w p n c xs) (hy:Sl w q m d ys) (hn:n ≤ 8796093022208) (hm:m ≤ 8796093022208) :
  Calls Tryz.prog 116 #[.slice p n c,.slice q m d] w (RetN w (lim (val xs + val ys))):=by
 rcases Nat.lt_or_ge n m with h | h
 ·exact radd_lt hx hy hn hm h
 exact radd_ge hx hy hn hm h
theorem rsub_num {x y b:Nat} (hx:x < 4294967296) (hy:y < 4294967296) (hb:b ≤ 1):(4294967296 + x - y - b) % 4294967296 + y + b = x + 4294967296 * (1 - (4294967296 + x - y - b) / 4294967296):=by omega
set_option maxHeartbeats 1000000 in
theorem rsub_any {p q:Option Addr} {n m c d:Nat} {xs ys:List Nat} {w:World} (hx:Sl w p n c xs) (hy:Sl w q m d ys) (hn:n ≤ 8796093022208) (hle:val ys ≤ val xs) :
  Calls Tryz.prog 117 #[.slice p n c,.slice q m d] w (RetN w (lim (val xs - val ys))):=by
 have HXL:=Lib.hid hx.len
 have HX:=Lib.hid hx.lims
 have HY:=Lib.hid hy.lims
 have HLE:=Lib.hid hle
 clear hle
 go_enter Tryz.func117,Tryz.ntmps117
 go_wp2_with (at_make; refine wp_make32 _ rfl _ _ _ rfl Tryz.underlying26 _ _ _ _ n rfl rfl rfl rfl (by omega) w.heap.size w (Below.refl _ _) (Nat.le_refl _) ?_; intro w1 hf1 hb1 hb2 hsz1)
 clear hb1 hsz1
 go_loopw [6,14] (fun cv v wr => ∃ k s:Nat,k ≤ n ∧ v = .int .i64 (k:Int) ∧ s ≤ 1 ∧ cv = .int .u64 s ∧ ∃ zs,Fr w.heap.size wr (some ⟨w.heap.size,0,none⟩) n n zs ∧ Below w.heap.size w wr ∧ Hid (sm (nd zs) k + sm (nd ys) k = sm (nd xs) k + s * 4294967296 ^ k)) (fun _ v _ => n - (intOf v).toNat)
 case atStart => exact ⟨0,0,by omega,rfl,by omega,rfl,_,hf1,hb2,rfl⟩
 case round =>
  clear hf1 hb2
  obtain ⟨k,s,hk,rfl,hs,rfl,zs,hf,hb,HH⟩:=hrel
  by_cases hkL:k < n
  ·have hX:=hx.lim1 k
   have hY:=hy.lim1 k
   have hzc:=hf.cellAt hkL
   have hzf:=hf.frozenAt k
   have hx2:=hx.below hb (Nat.le_refl _)
   have hy2:=hy.below hb (Nat.le_refl _)
   have HD:=Lib.hid (rsub_num hX hY hs)
   have hq:(4294967296 + nd xs k - nd ys k - s) / 4294967296 ≤ 1:=by omega
   go_wp2_with fail
   refine (limb_any rfl hx2 (by omega)).mono ?_
   rintro e w2 ⟨rfl,rfl⟩
   go_wp2_with fail
   refine (limb_any rfl hy2 (by omega)).mono ?_
   rintro e w2 ⟨rfl,rfl⟩
   go_wp2_with fail
   have e1:(4294967296 + (nd xs k:Int) - (nd ys k:Int) - (s:Int)) % 4294967296 = (((4294967296 + nd xs k - nd ys k - s) % 4294967296:Nat):Int):=by omega
   have e2:1 - (4294967296 + (nd xs k:Int) - (nd ys k:Int) - (s:Int)) / 4294967296 = ((1 - (4294967296 + nd xs k - nd ys k - s) / 4294967296:Nat):Int):=by omega
   rw [e1,e2]
   refine ⟨⟨k + 1,1 - (4294967296 + nd xs k - nd ys k - s) / 4294967296,by omega,by go_num,by omega,rfl,_,hf.set k (v:=(4294967296 + nd xs k - nd ys k - s) % 4294967296) (Nat.mod_lt _ (by omega)),hb.setCell (p:=⟨w.heap.size,k,none⟩) (Nat.le_refl _) _,sub_step hkL hf.len HH.out HD.out⟩,by simp [intOf]; omega⟩
  obtain rfl:k = n:=by omega
  go_wp2_with fail
  refine (rnorm_any hf.sl (by omega)).mono ?_
  rintro e w2 ⟨p2,n2,c2,rfl,hf2,hb2⟩
  go_wp2_with fail
  go_ret
  have e:val zs = val xs - val ys:=by
   have h1:=HH.out
   have h2:=val_lt HX.out
   rw [HXL.out] at h2
   rw [val_le (xs:=xs) (by rw [HXL.out]; omega),val_le (xs:=zs) (by rw [hf.len]; exact Nat.le_refl _),sm_mod HY.out,Nat.mod_eq_of_lt (Nat.lt_of_le_of_lt HLE.out h2)] at h1
   exact less_val hf.lims (by rw [hf.len]; exact h1) hs HLE.out
  rw [e] at hf2
  exact ⟨_,_,_,rfl,hf2.mono hb.size,hb.trans (hb2.mono hb.size)⟩
theorem small_step {zs:List Nat} {k L x y c A:Nat} (hk:k < L) (hl:zs.length = L) (h:sm (nd zs) k + c * 4294967296 ^ k = A * y) :
  sm (nd (zs.set k ((x * y + c) % 4294967296))) (k + 1) + (x * y + c) / 4294967296 * 4294967296 ^ (k + 1) = (A + x * 4294967296 ^ k) * y:=by
 have h1:sm (nd (zs.set k ((x * y + c) % 4294967296))) k = sm (nd zs) k :=
  sm_congr fun i hi => by rw [nd_set _ _ _ _ (by omega),if_neg (by omega)]
 show sm _ k + nd _ k * _ + _ = _
 rw [h1,nd_set _ _ _ _ (by omega),if_pos rfl,Nat.pow_succ]
 have h2:=Nat.mod_add_div (x * y + c) 4294967296
 generalize hP:(4294967296:Nat) ^ k = P at *
 generalize hT:x * y + c = T at *
 have h3:(T % 4294967296 + 4294967296 * (T / 4294967296)) * P = T * P:=by rw [h2]
 have h4:T / 4294967296 * (P * 4294967296) = 4294967296 * (T / 4294967296) * P:=by rw [Nat.mul_comm P, ← Nat.mul_assoc,Nat.mul_comm (T / 4294967296)]
 have h5:T * P = x * y * P + c * P:=by rw [← hT,Nat.add_mul]
 have h6:x * P * y = x * y * P:=by rw [Nat.mul_assoc,Nat.mul_comm P,Nat.mul_assoc]
 rw [Nat.add_mul] at h3
 rw [Nat.add_mul]
 omega
set_option maxHeartbeats 1000000 in
theorem rsmall_any {p:Option Addr} {n c y:Nat} {xs:List Nat} {w:World} {Y:Int} (hY:Y = (y:Int)) (hx:Sl w p n c xs) (hy:y < 4294967296) (hn:n ≤ 8796093022208) :
  Calls Tryz.prog 137 #[.slice p n c,.int .u32 Y] w (RetN w (lim (val xs * y))):=by
 subst hY
 have HXL:=Lib.hid hx.len
 have HX:=Lib.hid hx.lims
 go_enter Tryz.func137,Tryz.ntmps137
 go_wp2_with (at_make; refine wp_make32 _ rfl _ _ _ rfl Tryz.underlying26 _ _ _ _ (n + 1) rfl rfl rfl rfl (by omega) w.heap.size w (Below.refl _ _) (Nat.le_refl _) ?_; intro w1 hf1 hb1 hb2 hsz1)
 clear hb1 hsz1
 go_loopw [6,15] (fun cv v wr => ∃ k s:Nat,k ≤ n + 1 ∧ v = .int .i64 (k:Int) ∧ s < 4294967296 ∧ cv = .int .u64 s ∧ ∃ zs,Fr w.heap.size wr (some ⟨w.heap.size,0,none⟩) (n + 1) (n + 1) zs ∧ Below w.heap.size w wr ∧ Hid (sm (nd zs) k + s * 4294967296 ^ k = sm (nd xs) k * y)) (fun _ v _ => n + 1 - (intOf v).toNat)
 case atStart => exact ⟨0,0,by omega,rfl,by omega,rfl,_,hf1,hb2,by show _ = _; simp [sm]⟩
 case round =>
  clear hf1 hb2
  obtain ⟨k,s,hk,rfl,hs,rfl,zs,hf,hb,HH⟩:=hrel
  by_cases hkL:k < n + 1
  ·have hX:=hx.lim1 k
   have hzc:=hf.cellAt hkL
   have hzf:=hf.frozenAt k
   have hx2:=hx.below hb (Nat.le_refl _)
   have hxy:nd xs k * y ≤ 18446744065119617025:=by
    have h1:nd xs k * y ≤ 4294967295 * 4294967295:=Nat.mul_le_mul (by omega) (by omega)
    omega
   have hxy2:(nd xs k:Int) * (y:Int) ≤ 18446744065119617025:=by
    rw [← Int.natCast_mul]; omega
   have hxy3:0 ≤ (nd xs k:Int) * (y:Int):=by
    rw [← Int.natCast_mul]; omega
   go_wp2_with fail
   refine (limb_any rfl hx2 (by omega)).mono ?_
   rintro e w2 ⟨rfl,rfl⟩
   go_wp2_with fail
   refine ⟨⟨k + 1,(nd xs k * y + s) / 4294967296,by omega,by go_num,by omega,rfl,_,hf.set k (v:=(nd xs k * y + s) % 4294967296) (Nat.mod_lt _ (by omega)),hb.setCell (p:=⟨w.heap.size,k,none⟩) (Nat.le_refl _) _,small_step hkL hf.len HH.out⟩,by simp [intOf]; omega⟩
  obtain rfl:k = n + 1:=by omega
  go_wp2_with fail
  refine (rnorm_any hf.sl (by omega)).mono ?_
  rintro e w2 ⟨p2,n2,c2,rfl,hf2,hb2⟩
  go_wp2_with fail
  go_ret
  have e:val zs = val xs * y:=by
   have h1:=HH.out
   rw [val_le (xs:=xs) (by rw [HXL.out]; omega),val_le (xs:=zs) (by rw [hf.len]; exact Nat.le_refl _)] at h1
   have h2:=val_lt HX.out
   rw [HXL.out] at h2
   have h3:val xs * y < 4294967296 ^ (n + 1):=by
    rw [Nat.pow_succ]
    have h4:val xs * y ≤ val xs * 4294967296:=Nat.mul_le_mul_left _ (by omega)
    omega
   rcases Nat.eq_zero_or_pos s with rfl | h0
   ·omega
   have:1 * 4294967296 ^ (n + 1) ≤ s * 4294967296 ^ (n + 1):=Nat.mul_le_mul_right _ h0
   omega
  rw [e] at hf2
  exact ⟨_,_,_,rfl,hf2.mono hb.size,hb.trans (hb2.mono hb.size)⟩
set_option maxHeartbeats 400000 in
theorem rshift_any {p:Option Addr} {n c y:Nat} {xs:List Nat} {w:World} {Y:Int} (hY:Y = (y:Int)) (hx:Sl w p n c xs) (hy:y < 4294967296) (hn:n ≤ 8796093022208) :
  Calls Tryz.prog 136 #[.slice p n c,.int .u32 Y] w (RetN w (lim (y + 4294967296 * val xs))):=by
 subst hY
 have HV:Hid (val ([y] ++ xs) = y + 4294967296 * val xs):=val_cons y xs
 have hf0:=Fr.lit (B:=w.heap.size) w [y] (lims_single hy) (Nat.le_refl _)
 have hb0:=(Below.refl w.heap.size w).alloc (Nat.le_refl _) (.cells ([y].map fun x:Nat => Value.int .u32 (x:Int)).toArray 63)
 have hx0:=hx.below hb0 (Nat.le_refl _)
 go_enter Tryz.func136,Tryz.ntmps136
 go_wp2_with (at_builtin; refine wp_appendAny _ rfl _ _ _ rfl Tryz.underlying26 w.heap.size _ 1 _ [y] rfl hf0 _ n _ xs rfl hx0 (by omega) hb0 (Nat.le_refl _) (by simp) ?_; intro p4 c4 w4 hf4 hg4 hb4)
 refine (rnorm_any hf4.sl (by omega)).mono ?_
 rw [HV.out]
 rintro e w2 ⟨p2,n2,c2,rfl,hf2,hb2⟩
 go_wp2_with fail
 go_ret
 exact ⟨_,_,_,rfl,hf2.mono hb4.size,hb4.trans (hb2.mono hb4.size)⟩
open Go.RowKit
theorem shift_bd {w w':World} {p q:Option Addr} {n c m d y M:Nat} {xs:List Nat} (h:Sl w p n c (lim (y + 4294967296 * val xs))) (hx:Sl w' q m d xs) (hy:y < 4294967296) (hm:m + 1 ≤ M):n ≤ M:=by
  rw [← h.len,length_lim]
  refine Nat.le_trans (ll_le ?_) hm
  have h1:=val_lt hx.lims
  rw [hx.len] at h1
  rw [Nat.pow_succ]
  omega
theorem small_bd {w w':World} {p q:Option Addr} {n c m d y M:Nat} {xs:List Nat} (h:Sl w p n c (lim (val xs * y))) (hx:Sl w' q m d xs) (hy:y < 4294967296) (hm:m + 1 ≤ M):n ≤ M:=by
  rw [← h.len,length_lim]
  refine Nat.le_trans (ll_le ?_) hm
  have h1:=val_lt hx.lims
  rw [hx.len] at h1
  rw [Nat.pow_succ]
  have h2:val xs * y ≤ val xs * 4294967296:=Nat.mul_le_mul_left _ (by omega)
  omega
theorem keepS {wr W w4:World} {b o:Nat} {v:Value} (hS:W.cell? ⟨b,o,none⟩ = some v ∧ Below wr.heap.size wr W) (hb:Below W.heap.size W w4) (hlt:b < wr.heap.size):w4.cell? ⟨b,o,none⟩ = some v ∧ Below wr.heap.size wr w4:=by
  have h:=hS.2.size
  exact ⟨by rw [(below_cell hb).1 b o (by omega)]; exact hS.1,hS.2.trans (hb.mono h)⟩
set_option maxHeartbeats 2000000 in
theorem rmul_any {p q:Option Addr} {n m c d:Nat} {xs ys:List Nat} {w:World} (hx:Sl w p n c xs) (hy:Sl w q m d ys) (hn:n ≤ 1099511627776) (hm:m ≤ 1099511627776) :
  Calls Tryz.prog 118 #[.slice p n c,.slice q m d] w (RetN w (lim (val xs * val ys))):=by
 go_enter Tryz.func118,Tryz.ntmps118
 go_wp2_with fail
 refine (rnorm_any hx (by omega)).mono ?_
 rintro e w1 ⟨p1,n1,c1,rfl,hf1,hb1⟩
 go_wp2_with fail
 refine (rnorm_any (hy.below hb1 (Nat.le_refl _)) (by omega)).mono ?_
 rintro e w2 ⟨q1,m1,d1,rfl,hg2,hb2⟩
 have hx2:=(hf1.below hb2 (Nat.le_refl _)).sl
 have hy2:=hg2.sl
 have hbw:=hb1.trans (hb2.mono hb1.size)
 have HN:Hid (ll (val xs) = n1):=by show _ = _; rw [← hx2.len,length_lim]
 have HM:Hid (ll (val ys) = m1):=by show _ = _; rw [← hy2.len,length_lim]
 have hn1:n1 ≤ 1099511627776:=by rw [← HN.out, ← tl_ll hx.lims,hx.len]; exact Nat.le_trans (tl_le _ _) hn
 have hm1:m1 ≤ 1099511627776:=by rw [← HM.out, ← tl_ll hy.lims,hy.len]; exact Nat.le_trans (tl_le _ _) hm
 clear hf1 hg2 hb1 hb2
 have HA:Hid (val (lim (val xs)) = val xs):=vLm _
 have HC:Hid (val (lim (val ys)) = val ys):=vLm _
 generalize lim (val xs) = us at *
 generalize lim (val ys) = vs at *
 generalize val xs = A at *
 generalize val ys = C at *
 have HB:Hid (∀ k,ll (A * val (vs.drop k)) ≤ n1 + m1):=by
  intro k
  apply ll_le
  have h1:=val_lt hx2.lims
  rw [HA.out,hx2.len] at h1
  have h2:=val_lt (hy2.lims.drop k)
  have h3:=pow_le (show (vs.drop k).length ≤ m1 by rw [List.length_drop,hy2.len]; omega)
  rw [Nat.pow_add]
  exact Nat.lt_of_le_of_lt (Nat.mul_le_mul_left A (Nat.le_of_lt (Nat.lt_of_lt_of_le h2 h3))) (Nat.mul_lt_mul_of_pos_right h1 (pos_pow m1))
 go_wp2_with fail
 go_loopw [5,6] (fun o v wr => ∃ k:Nat,k ≤ m1 ∧ v = .int .i64 ((k:Int) - 1) ∧ ∃ p3 n3 c3,o = .slice p3 n3 c3 ∧ Sl wr p3 n3 c3 (lim (A * val (vs.drop k))) ∧ Below w2.heap.size w2 wr) (fun _ v _ => (intOf v + 1).toNat)
 case atStart => exact ⟨m1,by omega,rfl,none,0,0,rfl,by rw [val_drop_len (by rw [hy2.len]; exact Nat.le_refl _)]; exact Sl.nil _,Below.refl _ _⟩
 case round =>
  obtain ⟨k,hk,rfl,p3,n3,c3,rfl,hs3,hb3⟩:=hrel
  have HB3:Hid (ll (A * val (vs.drop k)) = n3):=by show _ = _; rw [← hs3.len,length_lim]
  have hn3:n3 ≤ n1 + m1:=by rw [← HB3.out]; exact HB.out k
  rcases k with _ | j
  ·go_wp2_with fail
   refine (rnorm_any hs3 (by omega)).mono ?_
   rintro e w3 ⟨p4,n4,c4,rfl,hf4,hb4⟩
   go_wp2_with fail
   go_ret
   have e:val (lim (A * val (vs.drop 0))) = A * C:=by rw [vLm,List.drop_zero,HC.out]
   rw [e] at hf4
   have hbr:=hbw.trans (hb3.mono hbw.size)
   exact ⟨_,_,_,rfl,hf4.mono hbr.size,hbr.trans (hb4.mono hbr.size)⟩
  have ej:((j + 1:Nat):Int) - 1 = (j:Int):=by omega
  rw [ej]
  clear ej
  obtain ⟨b2,o2,rfl,hyc⟩:=(hy2.below hb3 (Nat.le_refl _)).cell j (by omega)
  have hY:=hy2.lim1 j
  generalize hYY:nd vs j = Y at *
  have HYY:=Lib.hid hYY
  clear hYY
  have hx3:=hx2.below hb3 (Nat.le_refl _)
  have hji:(j:Int) < (m1:Int):=by omega
  have hlt:=World.block_lt_of_cell? wr _ hyc
  have hlt2:b2 < wr.heap.size:=hlt
  clear hlt
  go_wp2_with fail
  go_region_held3 (fun w' => w'.cell? ⟨b2,o2 + j,none⟩ = some (.int .u32 (Y:Int)) ∧ Below wr.heap.size wr w')
   (first | exact ⟨hyc,(Below.refl _ _).drew⟩ | exact keepS ‹World.cell? _ _ = some _ ∧ Below wr.heap.size wr _› hb4 hlt2 | exact keepS ‹World.cell? _ _ = some _ ∧ Below wr.heap.size wr _› hb5 hlt2 | exact keepS ‹World.cell? _ _ = some _ ∧ Below wr.heap.size wr _› hb6 hlt2)
   (first
    | (go_at_call 136; have hS := ‹World.cell? _ _ = some _ ∧ Below wr.heap.size wr _›; refine (rshift_any (y:=0) rfl (hs3.below hS.2 (Nat.le_refl _)) (by omega) (by omega)).mono ?_; rintro e w4 ⟨p4,n4,c4,rfl,hf4,hb4⟩; clear hS; have hn4:n4 ≤ 8796093022208:=shift_bd hf4.sl hs3 (by omega) (by omega))
    | (go_at_call 137; have hS := ‹World.cell? _ _ = some _ ∧ Below wr.heap.size wr _›; refine (rsmall_any rfl (hx3.below hS.2 (Nat.le_refl _)) hY (by omega)).mono ?_; rintro e w5 ⟨p5,n5,c5,rfl,hf5,hb5⟩; clear hS; have hn5:n5 ≤ 8796093022208:=small_bd hf5.sl hx3 hY (by omega))
    | (go_at_call 116; refine (radd_any (hf4.sl.below hb5 (Nat.le_refl _)) hf5.sl hn4 hn5).mono ?_; rintro e w6 ⟨p6,n6,c6,rfl,hf6,hb6⟩))
  go_wp2_with fail
  have e6:val (lim (0 + 4294967296 * val (lim (A * val (List.drop (j + 1) vs))))) + val (lim (val us * Y)) = A * val (List.drop j vs):=by
   rw [vLm,vLm,vLm,HA.out,val_drop_succ (xs:=vs) (k:=j) (by rw [hy2.len]; omega),HYY.out,Nat.mul_add,Nat.mul_left_comm]
   omega
  rw [e6] at hf6
  have hS := ‹World.cell? _ _ = some _ ∧ Below wr.heap.size wr _›
  exact ⟨⟨j,by omega,rfl,_,_,_,rfl,hf6.sl,hb3.trans (hS.2.mono hb3.size)⟩,by simp [intOf]⟩
open Go.RowKit
theorem rcmp_le {a b:Nat} (h:a ≤ b):cmpN a b ≤ 0:=by unfold cmpN; split <;> (try split) <;> omega
theorem rcmp_gt {a b:Nat} (h:b < a):0 < cmpN a b:=by unfold cmpN; rw [if_neg (by omega),if_neg (by omega)]; omega
theorem div_step {X D C:Nat} (hX:X < 4294967296) (hC:0 < C) :
  (X + 4294967296 * D) / C = 4294967296 * (D / C) + (X + 4294967296 * (D % C)) / C ∧ (X + 4294967296 * D) % C = (X + 4294967296 * (D % C)) % C ∧ (X + 4294967296 * (D % C)) / C < 4294967296:=by
 have h:=Nat.div_add_mod D C
 have e:X + 4294967296 * D = X + 4294967296 * (D % C) + C * (4294967296 * (D / C)):=by
  rw [Nat.mul_left_comm]; omega
 have hm:=Nat.mod_lt D hC
 refine ⟨?_,?_,?_⟩
 ·rw [e,Nat.add_mul_div_left _ _ hC,Nat.add_comm]
 ·rw [e,Nat.add_mul_mod_self_left]
 rw [Nat.div_lt_iff_lt_mul hC]
 have:4294967296 * (D % C + 1) ≤ 4294967296 * C:=Nat.mul_le_mul_left _ hm
 omega
theorem bit_or {dd i Q:Nat} (hi:i < 32) (hdd:dd < 4294967296) (hd:dd = Q / 2 ^ (i + 1) * 2 ^ (i + 1)):bits BinOp.or IntKind.u32 (dd:Int) (2 ^ i % 4294967296) = ((dd + 2 ^ i:Nat):Int):=by
 have hp:2 ^ i < 4294967296:=by rw [show (4294967296:Nat) = 2 ^ 32 from rfl]; exact Nat.pow_lt_pow_right (by omega) hi
 have e:(2:Int) ^ i % 4294967296 = ((2 ^ i:Nat):Int):=by
  have:(2:Int) ^ i = ((2 ^ i:Nat):Int):=by rw [Int.natCast_pow]; rfl
  rw [this]; exact Int.emod_eq_of_lt (Int.natCast_nonneg _) (Int.ofNat_lt.2 hp)
 rw [e,u32_or_nat _ _ hdd hp,nat_join (i + 1) _ _ (by rw [hd,Nat.mul_mod_left]) (Nat.pow_lt_pow_right (by omega) (by omega))]
theorem bit_up {dd i Q:Nat} (hd:dd = Q / 2 ^ (i + 1) * 2 ^ (i + 1)) :
  (dd + 2 ^ i ≤ Q → dd + 2 ^ i = Q / 2 ^ i * 2 ^ i) ∧ (Q < dd + 2 ^ i → dd = Q / 2 ^ i * 2 ^ i):=by
 rw [Nat.pow_succ] at hd
 have h1:Q / (2 ^ i * 2) = Q / 2 ^ i / 2:=(Nat.div_div_eq_div_mul _ _ _).symm
 rw [h1] at hd
 have h2:=Nat.div_add_mod Q (2 ^ i)
 have h3:=Nat.mod_lt Q (Nat.two_pow_pos i)
 generalize Q / 2 ^ i = T at *
 generalize 2 ^ i = P at *
 generalize Q % P = r at *
 have h4:dd = T / 2 * 2 * P:=by rw [hd,Nat.mul_assoc,Nat.mul_comm 2]
 have h5:P * T = T * P:=Nat.mul_comm _ _
 rcases Nat.mod_two_eq_zero_or_one T with h | h
 ·have e:T = T / 2 * 2:=by omega
  rw [← e] at h4
  exact ⟨fun _ => by omega,fun _ => by omega⟩
 have e:T = T / 2 * 2 + 1:=by omega
 have e2:T * P = T / 2 * 2 * P + P:=by
  have:=congrArg (· * P) e
  simp only [Nat.add_mul,Nat.one_mul] at this
  exact this
 exact ⟨fun _ => by omega,fun _ => by omega⟩
def RetDD (w:World) (Q R:Nat) (e:Ending) (w':World):Prop :=
  ∃ p n c q m d,e = .returned (.tuple #[.slice p n c,.slice q m d]) ∧ Fr w.heap.size w' p n c (lim Q) ∧ Fr w.heap.size w' q m d (lim R) ∧ Below w.heap.size w w'
def DivAt (w2:World) (n1 C:Nat) (us:List Nat) (k:Nat) (o:Value) (wr:World):Prop :=
  ∃ p3 n3 c3 zs,o = .slice p3 n3 c3 ∧ Fr w2.heap.size wr p3 n3 c3 (lim (val (us.drop k) % C)) ∧ Fr w2.heap.size wr (some ⟨w2.heap.size,0,none⟩) n1 n1 zs ∧ Below w2.heap.size w2 wr ∧ Hid ((∀ i,i < k → nd zs i = 0) ∧ val (zs.drop k) = val (us.drop k) / C)
theorem divAt_skip {w2 w4:World} {n1 C X j n4 c4:Nat} {us zs:List Nat} {p4:Option Addr} (hj:j < n1) (hu:us.length = n1) (hXX:nd us j = X) (hX:X < 4294967296) (hC:0 < C)
  (hf4:Fr w2.heap.size w4 p4 n4 c4 (lim (X + 4294967296 * (val (us.drop (j + 1)) % C)))) (hf3:Fr w2.heap.size w4 (some ⟨w2.heap.size,0,none⟩) n1 n1 zs) (hb:Below w2.heap.size w2 w4)
  (h:Hid ((∀ i,i < j + 1 → nd zs i = 0) ∧ val (zs.drop (j + 1)) = val (us.drop (j + 1)) / C)) (hlt:X + 4294967296 * (val (us.drop (j + 1)) % C) < C):DivAt w2 n1 C us j (.slice p4 n4 c4) w4:=by
 obtain ⟨d1,d2,_⟩:=div_step (D:=val (us.drop (j + 1))) hX hC
 have e:val (us.drop j) = X + 4294967296 * val (us.drop (j + 1)):=by rw [val_drop_succ (by omega),hXX]
 refine ⟨p4,n4,c4,zs,rfl,?_,hf3,hb,fun i hi => h.out.1 i (by omega),?_⟩
 ·rw [e,d2,Nat.mod_eq_of_lt hlt]; exact hf4
 rw [e,d1,val_drop_succ (by rw [hf3.len]; exact hj),h.out.1 j (by omega),h.out.2,Nat.div_eq_of_lt hlt]; omega
theorem divAt_set {w2 w5 w6:World} {n1 C X j n4 c4 D:Nat} {us zs:List Nat} {p4:Option Addr} (hj:j < n1) (hu:us.length = n1) (hXX:nd us j = X) (hX:X < 4294967296) (hC:0 < C)
  (hf3:Fr w2.heap.size w5 (some ⟨w2.heap.size,0,none⟩) n1 n1 zs) (hb:Below w2.heap.size w2 w5)
  (h:Hid ((∀ i,i < j + 1 → nd zs i = 0) ∧ val (zs.drop (j + 1)) = val (us.drop (j + 1)) / C)) (hD:D = (X + 4294967296 * (val (us.drop (j + 1)) % C)) / C)
  (hb6:Below (w5.setCell ⟨w2.heap.size,j,none⟩ (.int .u32 (D:Int))).heap.size (w5.setCell ⟨w2.heap.size,j,none⟩ (.int .u32 (D:Int))) w6)
  (hf6:Fr w2.heap.size w6 p4 n4 c4 (lim ((X + 4294967296 * (val (us.drop (j + 1)) % C)) - C * D))):DivAt w2 n1 C us j (.slice p4 n4 c4) w6:=by
 obtain ⟨d1,d2,d3⟩:=div_step (D:=val (us.drop (j + 1))) hX hC
 have e:val (us.drop j) = X + 4294967296 * val (us.drop (j + 1)):=by rw [val_drop_succ (by omega),hXX]
 have hDl:D < 4294967296:=by rw [hD]; exact d3
 have hj2:j < zs.length:=by rw [hf3.len]; exact hj
 have hs:=hf3.set j hDl
 have hb5:=hb.setCell (p:=⟨w2.heap.size,j,none⟩) (Nat.le_refl _) (.int .u32 (D:Int))
 refine ⟨p4,n4,c4,zs.set j D,rfl,?_,hs.below hb6 (Nat.le_refl _),hb5.trans (hb6.mono hb5.size),?_,?_⟩
 ·have e2:=Nat.div_add_mod (X + 4294967296 * (val (us.drop (j + 1)) % C)) C
  rw [e,d2]
  rw [hD] at hf6
  have e3:X + 4294967296 * (val (us.drop (j + 1)) % C) - C * ((X + 4294967296 * (val (us.drop (j + 1)) % C)) / C) = (X + 4294967296 * (val (us.drop (j + 1)) % C)) % C:=by omega
  rw [e3] at hf6
  exact hf6
 ·intro i hi
  rw [nd_set _ _ _ _ hj2,if_neg (by omega)]
  exact h.out.1 i (by omega)
 rw [e,d1,val_drop_set hj2,h.out.2, ← hD]; omega
set_option maxHeartbeats 4000000 in
theorem rdiv_any {p q:Option Addr} {n m c d:Nat} {xs ys:List Nat} {w:World} (hx:Sl w p n c xs) (hy:Sl w q m d ys) (hn:n ≤ 1099511627776) (hm:m ≤ 1099511627776) (h0:val ys ≠ 0) :
  Calls Tryz.prog 140 #[.slice p n c,.slice q m d] w (RetDD w (val xs / val ys) (val xs % val ys)):=by
 go_enter Tryz.func140,Tryz.ntmps140
 go_wp2_with fail
 refine (rnorm_any hx (by omega)).mono ?_
 rintro e w1 ⟨p1,n1,c1,rfl,hf1,hb1⟩
 go_wp2_with fail
 refine (rnorm_any (hy.below hb1 (Nat.le_refl _)) (by omega)).mono ?_
 rintro e w2 ⟨q1,m1,d1,rfl,hg2,hb2⟩
 have hx2:=(hf1.below hb2 (Nat.le_refl _)).sl
 have hy2:=hg2.sl
 have hbw:=hb1.trans (hb2.mono hb1.size)
 have hn1:n1 ≤ 1099511627776:=by rw [hx2.lln, ← tl_ll hx.lims,hx.len]; exact Nat.le_trans (tl_le _ _) hn
 have hm1:m1 ≤ 1099511627776:=by rw [hy2.lln, ← tl_ll hy.lims,hy.len]; exact Nat.le_trans (tl_le _ _) hm
 have HM:Hid (ll (val ys) = m1):=hy2.lln.symm
 clear hf1 hg2 hb1 hb2
 have HA:Hid (val (lim (val xs)) = val xs):=vLm _
 have HC:Hid (val (lim (val ys)) = val ys):=vLm _
 generalize lim (val xs) = us at *
 generalize lim (val ys) = vs at *
 generalize val xs = A at *
 generalize val ys = C at *
 have hC:0 < C:=by omega
 clear h0
 go_wp2_with (at_make; refine wp_make32 _ rfl _ _ _ rfl Tryz.underlying26 _ _ _ _ n1 rfl rfl rfl rfl (by omega) w2.heap.size w2 (Below.refl _ _) (Nat.le_refl _) ?_; intro w3 hf3 hb3 hb4 hsz3)
 have H0:DivAt w2 n1 C us n1 (.slice none 0 0) w3:=⟨_,_,_,_,rfl,by rw [val_drop_len (by rw [hx2.len]; exact Nat.le_refl _),Nat.zero_mod]; exact Fr.nil _ _,hf3,hb4,fun i _ => nd_replicate _ _,by rw [val_drop_len (xs:=List.replicate n1 0) (by simp),val_drop_len (by rw [hx2.len]; exact Nat.le_refl _),Nat.zero_div]⟩
 clear hf3 hb3 hb4 hsz3
 go_loopw [7,8] (fun o v wr => ∃ k:Nat,k ≤ n1 ∧ v = .int .i64 ((k:Int) - 1) ∧ DivAt w2 n1 C us k o wr) (fun _ v _ => (intOf v + 1).toNat)
 case atStart => exact ⟨n1,Nat.le_refl _,rfl,H0⟩
 case round =>
  clear H0
  obtain ⟨k,hk,rfl,p3,n3,c3,zs,rfl,hs3,hf3,hb3,HH⟩:=hrel
  rcases k with _ | j
  ·go_wp2_with fail
   refine (rnorm_any hf3.sl (by omega)).mono ?_
   have e:val zs = A / C:=by have:=HH.out.2; simp only [List.drop_zero] at this; rw [this,HA.out]
   rw [e]
   rintro e w4 ⟨p4,n4,c4,rfl,hf4,hb4⟩
   go_wp2_with fail
   go_ret2
   have e2:val (us.drop 0) = A:=by rw [List.drop_zero,HA.out]
   rw [e2] at hs3
   have hbr:=hbw.trans (hb3.mono hbw.size)
   exact ⟨_,_,_,_,_,_,rfl,hf4.mono hbr.size,(hs3.below hb4 (Nat.le_refl _)).mono hbw.size,hbr.trans (hb4.mono hbr.size)⟩
  have ej:((j + 1:Nat):Int) - 1 = (j:Int):=by omega
  rw [ej]
  clear ej
  obtain ⟨b2,o2,rfl,hxc⟩:=(hx2.below hb3 (Nat.le_refl _)).cell j (by omega)
  have hX:=hx2.lim1 j
  have HL:=Lib.hid hx2.len
  generalize hXX:nd us j = X at *
  have HXX:=Lib.hid hXX
  clear hXX
  have hn3:n3 ≤ m1:=by
   rw [hs3.sl.lln, ← HM.out]
   exact ll_mono (Nat.le_of_lt (Nat.mod_lt _ hC))
  go_wp2_with fail
  refine (rshift_any rfl hs3.sl hX (by omega)).mono ?_
  rintro e w4 ⟨p4,n4,c4,rfl,hf4,hb4⟩
  have hn4:n4 ≤ m1 + 1:=shift_bd hf4.sl hs3.sl hX (by omega)
  rw [vLm] at hf4
  have hb24:=hb3.trans (hb4.mono hb3.size)
  have hy4:=hy2.below hb24 (Nat.le_refl _)
  have hf34:=hf3.below hb4 (Nat.le_refl _)
  have hf44:=hf4.mono hb3.size
  go_wp2_with fail
  refine (rcmp_any hf4.sl hy4).mono ?_
  rw [vLm,HC.out]
  obtain ⟨R,hR⟩:∃ R,R = X + 4294967296 * (val (us.drop (j + 1)) % C):=⟨_,rfl⟩
  rw [← hR]
  have HR:=Lib.hid hR
  rcases Nat.lt_or_ge R C with hlt | hge
  ·have hlt2:=hlt
   rw [hR] at hlt2
   clear hR
   rw [cmpN_lt hlt]
   rintro e w5 ⟨rfl,rfl⟩
   go_wp2_with fail
   exact ⟨⟨j,by omega,rfl,divAt_skip (by omega) HL.out HXX.out hX hC hf44 hf34 hb24 HH hlt2⟩,by simp [intOf]⟩
  rw [← hR] at hf4 hf44
  have hQ:R / C < 4294967296:=by rw [hR]; exact (div_step hX hC).2.2
  clear hR
  have hcg:0 ≤ cmpN R C:=by unfold cmpN; rw [if_neg (by omega)]; split <;> omega
  generalize cmpN R C = z at *
  have hz:decide (z < 0) = false:=by simp; omega
  rintro e w5 ⟨rfl,rfl⟩
  go_wp2_with fail
  obtain ⟨wo,rfl⟩:∃ wo:World,wo = w4:=⟨_,rfl⟩
  obtain ⟨Q,hQQ⟩:∃ Q,Q = R / C:=⟨_,rfl⟩
  rw [← hQQ] at hQ
  have HQ:=Lib.hid hQQ
  clear hQQ
  go_loopw [9,10] (fun dv kv wr => ∃ i dd:Nat,i ≤ 32 ∧ kv = .int .i64 ((i:Int) - 1) ∧ dd ≤ Q ∧ dv = .int .u32 (dd:Int) ∧ Below wo.heap.size wo wr ∧ Hid (dd = Q / 2 ^ i * 2 ^ i)) (fun _ v _ => (intOf v + 1).toNat)
  case atStart => exact ⟨32,0,by omega,rfl,by omega,rfl,Below.refl _ _,by show _ = _; rw [Nat.div_eq_of_lt (show Q < 2 ^ 32 from hQ),Nat.zero_mul]⟩
  case round =>
   obtain ⟨i,dd,hi,rfl,hdd,rfl,hbi,HD⟩:=hrel
   rcases i with _ | i
   ·have hdq:dd = Q:=by have:=HD.out; simpa using this
    subst hdq
    have hf5:=hf34.below hbi (Nat.le_refl _)
    have hzc:=hf5.cellAt (i:=j) (by omega)
    have hzf:=hf5.frozenAt j
    have hf45:=hf44.below hbi (Nat.le_refl _)
    have hb25:=hb24.trans (hbi.mono hb24.size)
    go_wp2_with fail
    have hs6:=(Below.refl w2.heap.size wr).setCell (p:=⟨w2.heap.size,j,none⟩) (Nat.le_refl _) (.int .u32 (dd:Int))
    have hy6:=hy2.below (hb25.trans hs6) (Nat.le_refl _)
    refine (rsmall_any rfl hy6 hQ (by omega)).mono ?_
    rw [HC.out]
    rintro e w7 ⟨p7,n7,c7,rfl,hf7,hb7⟩
    have hsl4:Sl (wr.setCell ⟨w2.heap.size,j,none⟩ (.int .u32 (dd:Int))) p4 n4 c4 (lim R):=by
     rcases Nat.eq_zero_or_pos n4 with h4 | h4
     ·refine ⟨hf45.len,hf45.sl.le,hf45.sl.cap,hf45.lims,hf45.sl.isnil,fun i hi => by omega⟩
     obtain ⟨g4,hg4,hg5,hg6⟩:=hf4.pos h4
     refine (hf45.setOther (a:=⟨w2.heap.size,j,none⟩) ?_ _).sl
     intro g hg
     rw [hg4] at hg
     simp only [Option.some.injEq,Addr.mk.injEq,and_true] at hg
     subst hg
     have h1:=hf3.block.2
     show g4 ≠ w2.heap.size
     omega
    have hsl7:=hsl4.below hb7 (Nat.le_refl _)
    have hle:C * dd ≤ R:=by rw [HQ.out]; exact Nat.mul_div_le _ _
    go_wp2_with fail
    refine (rsub_any hsl7 hf7.sl (by omega) (by rw [vLm,vLm]; exact hle)).mono ?_
    rw [vLm,vLm]
    rintro e w8 ⟨p8,n8,c8,rfl,hf8,hb8⟩
    go_wp2_with fail
    have hb78:=hb7.trans (hb8.mono hb7.size)
    refine ⟨⟨j,by omega,rfl,?_⟩,by simp [intOf]⟩
    have hbs:w2.heap.size ≤ w7.heap.size:=Nat.le_trans (hb25.trans hs6).size hb7.size
    exact divAt_set (by omega) HL.out HXX.out hX hC hf5 hb25 HH (by rw [HQ.out,HR.out]) hb78 (by rw [← HR.out]; exact hf8.mono hbs)
   have ei:((i + 1:Nat):Int) - 1 = (i:Int):=by omega
   rw [ei]
   clear ei
   have hor:=bit_or (show i < 32 by omega) (show dd < 4294967296 by omega) HD.out
   have HUP:=Lib.hid (bit_up HD.out)
   have hdi:dd + 2 ^ i < 4294967296:=by
    have h1:=HD.out
    have h2:2 ^ (i + 1) ≤ 2 ^ 32:=Nat.pow_le_pow_right (by omega) (by omega)
    have h3:dd + 2 ^ (i + 1) ≤ 4294967296:=by
     have h5:(4294967296:Nat) = 2 ^ (i + 1) * 2 ^ (31 - i):=by rw [← Nat.pow_add,show i + 1 + (31 - i) = 32 by omega]
     have h6:Q / 2 ^ (i + 1) < 2 ^ (31 - i):=by
      rw [Nat.div_lt_iff_lt_mul (Nat.two_pow_pos _),Nat.mul_comm, ← h5]; exact hQ
     have h7:(Q / 2 ^ (i + 1) + 1) * 2 ^ (i + 1) ≤ 2 ^ (31 - i) * 2 ^ (i + 1):=Nat.mul_le_mul_right _ h6
     rw [Nat.mul_comm (2 ^ (31 - i)), ← h5,Nat.add_mul, ← h1] at h7
     omega
    have h4:2 ^ (i + 1) = 2 * 2 ^ i:=by rw [Nat.pow_succ,Nat.mul_comm]
    have:=Nat.two_pow_pos i
    omega
   generalize hP:2 ^ i = P at *
   have HP:=Lib.hid hP
   clear hP
   go_wp2_with fail
   refine (rsmall_any (y:=dd + P) rfl (hy4.below hbi (Nat.le_refl _)) hdi (by omega)).mono ?_
   rw [HC.out]
   rintro e w7 ⟨p7,n7,c7,rfl,hf7,hb7⟩
   go_wp2_with fail
   refine (rcmp_any hf7.sl ((hf4.sl.below hbi (Nat.le_refl _)).below hb7 (Nat.le_refl _))).mono ?_
   rw [vLm,vLm]
   have hb77:=hbi.trans (hb7.mono hbi.size)
   rcases Nat.lt_or_ge R (C * (dd + P)) with hgt | hle
   ·have hzz:=rcmp_gt hgt
    generalize cmpN (C * (dd + P)) R = zz at *
    rintro e w8 ⟨rfl,rfl⟩
    go_wp2_with fail
    refine ⟨⟨i,dd,by omega,rfl,hdd,rfl,hb77,?_⟩,by simp [intOf]⟩
    show dd = Q / 2 ^ i * 2 ^ i
    rw [HP.out]
    refine HUP.out.2 (Nat.lt_of_le_of_lt (Nat.le_of_eq HQ.out) ?_)
    exact Nat.div_lt_of_lt_mul hgt
   have hzz:=rcmp_le hle
   generalize cmpN (C * (dd + P)) R = zz at *
   rintro e w8 ⟨rfl,rfl⟩
   have hq2:dd + P ≤ Q:=by
    rw [HQ.out,Nat.le_div_iff_mul_le hC,Nat.mul_comm]; exact hle
   go_wp2_with fail
   exact ⟨⟨i,dd + P,by omega,rfl,hq2,rfl,hb77,by show dd + P = Q / 2 ^ i * 2 ^ i; rw [HP.out]; exact HUP.out.1 hq2⟩,by simp [intOf]⟩
open Go.RowKit
theorem half_num {x y:Nat} (hx:x < 4294967296):x / 2 + y % 2 * 2147483648 = (y * 4294967296 + x) / 2 ^ 1 % 4294967296:=by
  rw [Nat.pow_one]; omega
set_option maxHeartbeats 1000000 in
theorem rhalf_any {p:Option Addr} {n c:Nat} {xs:List Nat} {w:World} (hx:Sl w p n c xs) (hn:n ≤ 1099511627776) :
  Calls Tryz.prog 138 #[.slice p n c] w (RetN w (lim (val xs / 2))):=by
 have HL:=Lib.hid hx.len
 have HX:=Lib.hid hx.lims
 go_enter Tryz.func138,Tryz.ntmps138
 go_wp2_with (at_make; refine wp_make32 _ rfl _ _ _ rfl Tryz.underlying26 _ _ _ _ n rfl rfl rfl rfl (by omega) w.heap.size w (Below.refl _ _) (Nat.le_refl _) ?_; intro w1 hf1 hb1 hb2 hsz1)
 have H0:Filling w w.heap.size n (fun k => val xs / 2 ^ 1 / 4294967296 ^ k % 4294967296) 0 w1:=⟨_,hf1,hb2,by intro i hi; omega⟩
 clear hf1 hb1 hb2 hsz1
 go_loopw [10] (fun v wr => ∃ i:Nat,i ≤ n ∧ v = .int .i64 (i:Int) ∧ Filling w w.heap.size n (fun k => val xs / 2 ^ 1 / 4294967296 ^ k % 4294967296) i wr) (fun v _ => n - (intOf v).toNat)
 case atStart => exact ⟨0,by omega,rfl,H0⟩
 case round =>
  clear H0
  obtain ⟨k,hk,rfl,zs,hf,hb,HH⟩:=hrel
  by_cases hkn:k < n
  ·have hzc:=hf.cellAt hkn
   have hzf:=hf.frozenAt k
   have hX:=hx.lim1 k
   have hY:=hx.lim1 (k + 1)
   have hx2:=hx.below hb (Nat.le_refl _)
   have HD:Hid (nd xs k / 2 + nd xs (k + 1) % 2 * 2147483648 = val xs / 2 ^ 1 / 4294967296 ^ k % 4294967296):=by
    show _ = _
    rw [half_num hX]
    exact right_digit (by omega) (nd_of_val HX.out rfl k) (nd_of_val HX.out rfl (k + 1))
   go_wp2_with fail
   refine (limb_any rfl hx2 (by omega)).mono ?_
   rintro e w2 ⟨rfl,rfl⟩
   go_wp2_with fail
   refine (limb_any (i:=k + 1) (by omega) hx2 (by omega)).mono ?_
   rintro e w2 ⟨rfl,rfl⟩
   go_wp2_with fail
   exact ⟨⟨k + 1,by omega,by go_num,filling_next (v:=nd xs k / 2 + nd xs (k + 1) % 2 * 2147483648) hkn hf hb HH HD.out (by omega)⟩,by simp [intOf]; omega⟩
  obtain rfl:k = n:=by omega
  go_wp2_with fail
  refine (rnorm_any hf.sl (by omega)).mono ?_
  have e:val zs = val xs / 2:=by
   rw [show val xs / 2 = val xs / 2 ^ 1 from rfl]
   refine right_end (by rw [hf.len]; exact HH.out) ?_
   rw [hf.len]
   have h1:=val_lt HX.out
   rw [HL.out] at h1
   exact Nat.lt_of_le_of_lt (Nat.div_le_self _ _) h1
  rw [e]
  rintro e w2 ⟨p2,n2,c2,rfl,hf2,hb2⟩
  go_wp2_with fail
  go_ret
  exact ⟨_,_,_,rfl,hf2.mono hb.size,hb.trans (hb2.mono hb.size)⟩
open Go.RowKit
theorem step_appendAny {ops:Array Oper} {o:Oper} {a:Act} {w:World} {K:Act → World → Prop} {Q:Exit → Act → World → Prop} {E:Prop} (hgd:o.guard = none) (s x:Operand) (t:TypeId)
  (ho:o.op = .call { callee:=.builtin .append,args:=#[s,x],argTypes:=#[t,t] }) (ht:Tryz.prog.underlying t = some (.slice 63))
  (B:Nat) (p:Option Addr) (n c:Nat) (xs:List Nat) (hs:a.eval s = .slice p n c) (hown:Fr B w p n c xs)
  (q:Option Addr) (m c2:Nat) (ys:List Nat) (hx:a.eval x = .slice q m c2) (hy:Sl w q m c2 ys) (hb:n + m ≤ 35184372088832)
  {B0:Nat} {w0:World} (hB0:Below B0 w0 w) (hBB:B0 ≤ B) (hB:B ≤ w.heap.size)
  (h:∀ p' c' w',Fr B w' p' (n + m) c' (xs ++ ys) → w.grownBy w' (Value.slice p n c).ownBlock → Below B0 w0 w' → K (a.put o.dst (.slice p' (n + m) c')) w') :
  if Region.wanted o (yielded ops a.tmps) = true then Oper.wp Tryz.prog o a w K Q else E:=by
 have hw:Region.wanted o (yielded ops a.tmps) = true:=by simp [Region.wanted,hgd]
 rw [if_pos hw]
 obtain ⟨i,hi,hz0,hz1,hz2⟩:=info_parts info_u32
 have hm:maxLen = 9223372036854775807:=rfl
 cases q with
 | none =>
  obtain rfl:c2 = 0:=hy.isnil rfl
  obtain rfl:m = 0:=by have:=hy.le; omega
  obtain rfl:ys = []:=List.eq_nil_of_length_eq_zero hy.len
  have hrun:=run_append_owned_none (P:=Tryz.prog) w B t o.type 63 i 1 ht hi _ n _ hown.own
  unfold Oper.wp
  simp [execOp,ho,resolve,invoke,builtin,hs,hx,hrun,Result.andThen]
  exact h p c w (by simpa using hown) (World.grownBy.refl _ _) hB0
 | some ad =>
  refine wp_append_own w s x t ho B 63 i (.int .u32 0) 1 4 ht hi hz0 hz1 hz2 rfl (by decide) _ n _ hs hown.own ad m c2 (ys.map fun x:Nat => Value.int .u32 (x:Int)) hx (by simp [hy.len]) ?_ ?_ (by omega) (by omega) hB ?_
  ·intro j u hu
   have hj:j < m:=by
    have:=(List.getElem?_eq_some_iff.1 hu).1
    simp [hy.len] at this; omega
   obtain ⟨b',off',hp,hc⟩:=hy.cell j hj
   simp only [Option.some.injEq] at hp
   subst hp
   rw [Addr.add_lit,hc, ← hu,nd_get (by rw [hy.len]; exact hj)]
   simp [hy.len,hj]
  ·intro u hu
   obtain ⟨_,_,rfl⟩:=List.mem_map.1 hu
   rfl
  intro v' w' ho' hg' _
  have hex:∃ p' c',v' = .slice p' (n + m) c':=by
   rcases ho'.2 with ⟨h1,h2⟩ | ⟨g,cap,cur,h1,_⟩
   ·exact ⟨none,0,by rw [h1,h2]⟩
   exact ⟨_,_,h1⟩
  obtain ⟨p',c',rfl⟩:=hex
  refine h p' c' w' ⟨by simp [hown.len,hy.len],hown.lims.append hy.lims,by rw [List.map_append]; exact ho'⟩ hg' (hB0.grown hg' (Nat.le_trans hBB hB) ?_)
  intro k hk
  exact Nat.le_trans hBB (hown.own.lt k hk).1
theorem run_make32 {t:TypeId} (h1:Tryz.prog.underlying t = some (.slice 63)) (n:Nat) (b2:n ≤ 35184372088832) (L:Int) (hL:L = (n:Int)) (w:World) :
  (Instr.makeSlice t (.int .i64 L) (.int .i64 L)).run Tryz.prog w = .ok (.slice (some ⟨w.heap.size,0,none⟩) n n) (w.alloc (.cells (madeCells #[.int .u32 0] n) 63)):=by
 obtain ⟨i,hi,hz0,hz1,hz2⟩:=info_parts info_u32
 have hr:=run_make (P:=Tryz.prog) w t 63 i (.int .u32 0) h1 hi hz0 .i64 .i64 n n (by omega) (Int.le_refl _) (by rw [hz2]; omega) (by omega)
 rw [hz1,Nat.mul_one] at hr
 subst hL
 simpa [Value.cells] using hr
theorem Fr.made {B:Nat} (w:World) (n:Nat) (hB:B ≤ w.heap.size) (b2:n ≤ 35184372088832):Fr B (w.alloc (.cells (madeCells #[.int .u32 0] n) 63)) (some ⟨w.heap.size,0,none⟩) n n (List.replicate n 0):=by
  have hm:maxLen = 9223372036854775807:=rfl
  refine ⟨by simp,lims_zeros n,?_⟩
  have:=World.ownsRow_lit (base:=B) (e:=63) (size:=1) w (madeCells #[.int .u32 0] n) n hB (by omega) (by rw [size_madeCells,Nat.mul_one])
  rw [toList_madeCells_one] at this
  have e:(List.replicate n 0).map (fun x:Nat => Value.int .u32 (x:Int)) = List.replicate n (.int .u32 0):=by simp
  rw [e]
  exact this
theorem val_zeros_append (q:Nat) (xs:List Nat):val (List.replicate q 0 ++ xs) = 4294967296 ^ q * val xs:=by
  rw [val_append,List.length_replicate]
  have:val (List.replicate q 0) = 0:=sm_zero fun i _ => nd_replicate _ _
  rw [this,Nat.zero_add]
set_option maxRecDepth 100000 in
set_option maxHeartbeats 2000000 in
theorem rleft_any {p:Option Addr} {n c:Nat} {xs:List Nat} {w:World} {s:Nat} (hx:Sl w p n c xs) (hs:s ≤ 17592186044416) (hn:n ≤ 1099511627776) :
  Calls Tryz.prog 139 #[.slice p n c,.int .i64 (s:Int)] w (RetN w (lim (val xs * 2 ^ s))):=by
 have hmk:=run_make32 Tryz.underlying26 (s / 32) (by omega) ((s:Int) / 32) (by omega)
 have hwq:IntKind.i64.wrap ((s:Int) / 32) = (s:Int) / 32:=IntWalk.i64_in _ (by omega)
 have ht:s % 32 < 32:=Nat.mod_lt _ (by omega)
 have hp:2 ^ (s % 32) < 4294967296:=by rw [show (4294967296:Nat) = 2 ^ 32 from rfl]; exact Nat.pow_lt_pow_right (by omega) ht
 have hpi:(2:Int) ^ (s % 32) % 4294967296 = ((2 ^ (s % 32):Nat):Int):=by
  have:(2:Int) ^ (s % 32) = ((2 ^ (s % 32):Nat):Int):=by rw [Int.natCast_pow]; rfl
  rw [this]; exact Int.emod_eq_of_lt (Int.natCast_nonneg _) (Int.ofNat_lt.2 hp)
 have HPI:=Lib.hid hpi
 clear hpi
 go_enter Tryz.func139,Tryz.ntmps139
 go_wp2_with fail
 go_region_held3 (fun w' => Below w.heap.size w w')
  (first | exact (Below.refl _ _).drew | exact ((Below.refl _ _).alloc (Nat.le_refl _) _).drew | exact hS4 | exact hS4.alloc hS4.size _ | exact hb5)
  (first
   | (go_at_call 72; have hS0 := ‹Below w.heap.size w _›; refine (rnorm_any (hx.below hS0 (Nat.le_refl _)) (by omega)).mono ?_; rintro e w4 ⟨p4,n4,c4,rfl,hf4,hb4⟩; have hS4:=hS0.trans (hb4.mono hS0.size); have hn4:n4 ≤ n:=(by rw [hf4.sl.lln, ← tl_ll hx.lims,hx.len]; exact tl_le _ _))
   | (refine step_appendAny rfl _ _ _ rfl Tryz.underlying26 w.heap.size _ (s / 32) _ _ rfl (Fr.below (Fr.made w (s / 32) (Nat.le_refl _) (by omega)) ((Below.refl _ _).drew.trans hb4) (Nat.le_refl _)) _ n4 _ _ rfl hf4.sl (by omega) hS4 (Nat.le_refl _) hS4.size ?_; intro p5 c5 w5 hf5 hg5 hb5)
   | (refine step_appendAny rfl _ _ _ rfl Tryz.underlying26 w.heap.size _ (s / 32) _ _ rfl (Fr.made w4 (s / 32) hS4.size (by omega)) _ n4 _ _ rfl (hf4.sl.below ((Below.refl _ _).alloc (Nat.le_refl _) _) (Nat.le_refl _)) (by omega) (hS4.alloc hS4.size _) (Nat.le_refl _) (Nat.le_trans hS4.size (by simp)) ?_; intro p5 c5 w5 hf5 hg5 hb5))
 all_goals
  go_wp2_with fail
  refine (rsmall_any HPI.out hf5.sl hp (by omega)).mono ?_
  have e:val (List.replicate (s / 32) 0 ++ lim (val xs)) * 2 ^ (s % 32) = val xs * 2 ^ s:=by
   rw [val_zeros_append,vLm, ← pow_split s,Nat.mul_comm (4294967296 ^ (s / 32)),Nat.mul_assoc]
  rw [e]
  rintro e w6 ⟨p6,n6,c6,rfl,hf6,hb6⟩
  go_wp2_with fail
  go_ret
  exact ⟨_,_,_,rfl,hf6.mono hb5.size,hb5.trans (hb6.mono hb5.size)⟩
open Go.RowKit
theorem gcd_odd_half {A C:Nat} (ha:A % 2 = 0) (h:Nat.gcd A C % 2 = 1):Nat.gcd (A / 2) C = Nat.gcd A C:=by
 obtain ⟨k,rfl⟩:∃ k,A = 2 * k:=⟨A / 2,by omega⟩
 have e:2 * k / 2 = k:=by omega
 rw [e]
 apply Nat.dvd_antisymm
 ·exact Nat.dvd_gcd (Nat.dvd_trans (Nat.gcd_dvd_left _ _) ⟨2,Nat.mul_comm _ _⟩) (Nat.gcd_dvd_right _ _)
 refine Nat.dvd_gcd ?_ (Nat.gcd_dvd_right _ _)
 have hc:Nat.Coprime (Nat.gcd (2 * k) C) 2:=by
  have h1:Nat.gcd (Nat.gcd (2 * k) C) 2 ≤ 2:=Nat.le_of_dvd (by omega) (Nat.gcd_dvd_right _ _)
  have h2:=Nat.gcd_dvd_left (Nat.gcd (2 * k) C) 2
  have h3:0 < Nat.gcd (Nat.gcd (2 * k) C) 2:=Nat.gcd_pos_of_pos_right _ (by omega)
  show Nat.gcd _ 2 = 1
  generalize Nat.gcd (Nat.gcd (2 * k) C) 2 = g at *
  rcases (by omega:g = 1 ∨ g = 2) with rfl | rfl
  ·rfl
  omega
 exact hc.dvd_of_dvd_mul_left (Nat.gcd_dvd_left _ _)
def GcdOne (w:World) (L G A k:Nat) (a b t:Value) (wr:World):Prop :=
 ∃ p n c q m d X Y s,a = .slice p n c ∧ b = .slice q m d ∧ t = .int .i64 ((s:Nat):Int) ∧ Fr w.heap.size wr p n c (lim X) ∧ Fr w.heap.size wr q m d (lim Y) ∧ Below w.heap.size w wr ∧ n ≤ L ∧ m ≤ L ∧ 0 < n ∧ 0 < m ∧ s ≤ 17592186044416 ∧
  Hid (Nat.gcd X Y * 2 ^ s = G) ∧ Hid (X * 2 ^ s = A) ∧ Hid (X = k)
def GcdTwo (w:World) (L G k:Nat) (a b:Value) (wr:World):Prop :=
  ∃ p n c q m d X Y,a = .slice p n c ∧ b = .slice q m d ∧ Fr w.heap.size wr p n c (lim X) ∧ Fr w.heap.size wr q m d (lim Y) ∧ Below w.heap.size w wr ∧ n ≤ L ∧ m ≤ L ∧ Hid (Nat.gcd X Y = G) ∧ Hid (X + Y = k)
def GcdIn (w:World) (L G:Nat) (q:Option Addr) (m d Y X0 k:Nat) (a:Value) (wr:World):Prop :=
  ∃ p n c X,a = .slice p n c ∧ Fr w.heap.size wr p n c (lim X) ∧ Fr w.heap.size wr q m d (lim Y) ∧ Below w.heap.size w wr ∧ n ≤ L ∧ 0 < n ∧ X ≤ X0 ∧ Hid (Nat.gcd X Y = G) ∧ Hid (X = k)
theorem gcd_less {a b:Nat} (h:b ≤ a):Nat.gcd (a - b) b = Nat.gcd a b:=by
  obtain ⟨k,rfl⟩:=Nat.exists_eq_add_of_le h
  rw [Nat.add_sub_cancel_left,Nat.add_comm,Nat.gcd_add_self_left]
theorem low_even {X:Nat}:nd (lim X) 0 % 2 = X % 2:=by
  rw [nd_lim,Nat.pow_zero,Nat.div_one]
  omega
theorem pos_of_len {w:World} {p:Option Addr} {n c X:Nat} (h:Sl w p n c (lim X)) (h0:0 < n):0 < X:=by
 rcases Nat.eq_zero_or_pos X with e | e
 ·have:=h.lln
  rw [e] at this
  have h2:ll 0 = 0:=rfl
  omega
 exact e
theorem len_of_pos {w:World} {p:Option Addr} {n c X:Nat} (h:Sl w p n c (lim X)) (h0:0 < X):0 < n:=by
  rw [h.lln]; exact ll_pos (by omega)
theorem zero_of_len {w:World} {p:Option Addr} {n c X:Nat} (h:Sl w p n c (lim X)) (h0:n = 0):X = 0:=by
  rcases Nat.eq_zero_or_pos X with e | e
  · exact e
  have:=len_of_pos h e; omega
theorem twos_bd {X s A n:Nat} (h:X * 2 ^ s = A) (hX:0 < X) (hA:A < 4294967296 ^ n):s < 32 * n:=by
  have e:(4294967296:Nat) ^ n = 2 ^ (32 * n):=by rw [Nat.pow_mul]
  rw [e] at hA
  have h1:1 * 2 ^ s ≤ X * 2 ^ s:=Nat.mul_le_mul_right _ hX
  rw [h,Nat.one_mul] at h1
  exact (Nat.pow_lt_pow_iff_right (by omega)).1 (Nat.lt_of_le_of_lt h1 hA)
theorem gcd_halves {X Y s G:Nat} (hx:X % 2 = 0) (hy:Y % 2 = 0) (h:Nat.gcd X Y * 2 ^ s = G):Nat.gcd (X / 2) (Y / 2) * 2 ^ (s + 1) = G:=by
 have e:Nat.gcd X Y = 2 * Nat.gcd (X / 2) (Y / 2):=by
  rw [← Nat.gcd_mul_left]
  congr 1 <;> omega
 rw [← h,e,Nat.pow_succ,Nat.mul_comm 2,Nat.mul_assoc,Nat.mul_comm 2]
theorem half_up {X s A:Nat} (hx:X % 2 = 0) (h:X * 2 ^ s = A):X / 2 * 2 ^ (s + 1) = A:=by
  rw [← h,Nat.pow_succ,Nat.mul_comm (2 ^ s), ← Nat.mul_assoc]
  congr 1
  omega
theorem gcd_odd {X Y:Nat} (h:X % 2 = 1 ∨ Y % 2 = 1):Nat.gcd X Y % 2 = 1:=by
 have h1:=Nat.gcd_dvd_left X Y
 have h2:=Nat.gcd_dvd_right X Y
 generalize Nat.gcd X Y = g at *
 rcases Nat.mod_two_eq_zero_or_one g with h0 | h0
 ·have h3:2 ∣ g:=Nat.dvd_of_mod_eq_zero h0
  have h4:=Nat.dvd_trans h3 h1
  have h5:=Nat.dvd_trans h3 h2
  omega
 exact h0
set_option maxHeartbeats 4000000 in
theorem rgcd_any {p q:Option Addr} {n m c d:Nat} {xs ys:List Nat} {w:World} (hx:Sl w p n c xs) (hy:Sl w q m d ys) (hn:n ≤ 549755813888) (hm:m ≤ 549755813888) :
  Calls Tryz.prog 119 #[.slice p n c,.slice q m d] w (RetN w (lim (Nat.gcd (val xs) (val ys)))):=by
 go_enter Tryz.func119,Tryz.ntmps119
 go_wp2_with fail
 refine (rnorm_any hx (by omega)).mono ?_
 rintro e w1 ⟨p1,n1,c1,rfl,hf1,hb1⟩
 go_wp2_with fail
 refine (rnorm_any (hy.below hb1 (Nat.le_refl _)) (by omega)).mono ?_
 rintro e w2 ⟨q1,m1,d1,rfl,hg2,hb2⟩
 have hl1:=norm_len hx hf1
 have hl2:=norm_len (hy.below hb1 (Nat.le_refl _)) hg2
 replace hf1:=hf1.below hb2 (Nat.le_refl _)
 replace hg2:=hg2.mono hb1.size
 have hb:=hb1.trans (hb2.mono hb1.size)
 clear hb1 hb2
 generalize val xs = A at *
 generalize val ys = C at *
 have hA:=hf1.sl.lln
 have hC:=hg2.sl.lln
 have HA:=Lib.hid hA
 have HC:=Lib.hid hC
 clear hA hC
 rcases Nat.eq_zero_or_pos n1 with h0 | h0
 ·have hz:((n1:Int) == 0) = true:=by simp; omega
  go_wp2_with fail
  go_ret
  have hA0:=zero_of_len hf1.sl h0
  rw [hA0,Nat.gcd_zero_left]
  exact ⟨_,_,_,rfl,hg2,hb⟩
 have hz:((n1:Int) == 0) = false:=by simp; omega
 rcases Nat.eq_zero_or_pos m1 with h1 | h1
 ·have hz1:((m1:Int) == 0) = true:=by simp; omega
  go_wp2_with fail
  go_ret
  have hC0:=zero_of_len hg2.sl h1
  rw [hC0,Nat.gcd_zero_right]
  exact ⟨_,_,_,rfl,hf1,hb⟩
 have hz1:((m1:Int) == 0) = false:=by simp; omega
 have hn1:n1 ≤ 549755813888:=by omega
 have hm1:m1 ≤ 549755813888:=by omega
 have H0:GcdOne w 549755813888 (Nat.gcd A C) A A (.slice p1 n1 c1) (.slice q1 m1 d1) (.int .i64 0) w2:=⟨p1,n1,c1,q1,m1,d1,A,C,0,rfl,rfl,rfl,hf1,hg2,hb,hn1,hm1,h0,h1,by omega,by show _ = _; rw [Nat.pow_zero,Nat.mul_one],by show _ = _; rw [Nat.pow_zero,Nat.mul_one],rfl⟩
 have HLT:Hid (A < 4294967296 ^ n1):=by show _ < _; rw [HA.out]; exact lt_ll A
 go_wp2_with fail
 clear hf1 hg2 hb
 go_loopg [0,1,5] A (fun k a b t wr => GcdOne w 549755813888 (Nat.gcd A C) A k a b t wr)
 case atStart => exact H0
 case round =>
  clear H0
  obtain ⟨p,n,c,q,m,d,X,Y,s,rfl,rfl,rfl,hf,hg,hb,hln,hlm,hnp,hmp,hs,HG,HX,HK⟩:=hrel
  obtain ⟨g1,rfl,hg11,hg12⟩:=hf.pos hnp
  obtain ⟨g2,rfl,hg21,hg22⟩:=hg.pos hmp
  have hxc:=hf.cellAt hnp
  have hyc:=hg.cellAt hmp
  have hx1:=hf.sl.lim1 0
  have hy1:=hg.sl.lim1 0
  have hxe:=low_even (X:=X)
  have hye:=low_even (X:=Y)
  generalize nd (lim X) 0 = x0 at *
  generalize nd (lim Y) 0 = y0 at *
  have HXE:=Lib.hid hxe
  have HYE:=Lib.hid hye
  clear hxe hye
  have hzx:((x0:Int) % 2 == 0) = decide (x0 % 2 = 0):=by rw [Bool.eq_iff_iff]; simp; omega
  have hzy:((y0:Int) % 2 == 0) = decide (y0 % 2 = 0):=by rw [Bool.eq_iff_iff]; simp; omega
  by_cases hboth:x0 % 2 = 0 ∧ y0 % 2 = 0
  ·have hz2:((x0:Int) % 2 == 0) = true:=by rw [hzx]; simp [hboth.1]
   have hz3:((y0:Int) % 2 == 0) = true:=by rw [hzy]; simp [hboth.2]
   have HXE2:Hid (X % 2 = 0):=by show _ = _; rw [← HXE.out]; exact hboth.1
   have HYE2:Hid (Y % 2 = 0):=by show _ = _; rw [← HYE.out]; exact hboth.2
   clear hzx hzy hboth
   go_wp2_with fail
   refine (rhalf_any hf.sl (by omega)).mono ?_
   rw [vLm]
   rintro e w5 ⟨p5,n5,c5,rfl,hf5,hb5⟩
   go_wp2_with fail
   refine (rhalf_any (hg.sl.below hb5 (Nat.le_refl _)) (by omega)).mono ?_
   rw [vLm]
   rintro e w6 ⟨p6,m6,c6,rfl,hf6,hb6⟩
   have hX0:=pos_of_len hf.sl hnp
   have hY0:=pos_of_len hg.sl hmp
   have hx2:0 < X / 2:=by have:=HXE2.out; omega
   have hy2:0 < Y / 2:=by have:=HYE2.out; omega
   have hup:=half_up HXE2.out HX.out
   have hs1:=twos_bd hup hx2 HLT.out
   have HUP:=Lib.hid hup
   have hl5:n5 ≤ n:=by rw [hf5.sl.lln,hf.sl.lln]; exact ll_mono (Nat.div_le_self _ _)
   have hl6:m6 ≤ m:=by rw [hf6.sl.lln,hg.sl.lln]; exact ll_mono (Nat.div_le_self _ _)
   have hb56:=hb5.trans (hb6.mono hb5.size)
   have hp5:=len_of_pos hf5.sl hx2
   have hp6:=len_of_pos hf6.sl hy2
   have hlt:X / 2 < gk:=by rw [← HK.out]; omega
   clear hup
   go_wp2_with fail
   go_roundg (X / 2)
   case measure => exact hlt
   case rel => exact ⟨p5,n5,c5,p6,m6,c6,X / 2,Y / 2,s + 1,rfl,rfl,by go_num,(hf5.below hb6 (Nat.le_refl _)).mono hb.size,hf6.mono (Nat.le_trans hb.size hb5.size),hb.trans (hb56.mono hb.size),by omega,by omega,hp5,hp6,by omega,gcd_halves HXE2.out HYE2.out HG.out,HUP,rfl⟩
  have HODD:Hid (Nat.gcd X Y % 2 = 1):=gcd_odd (by have:=HXE.out; have:=HYE.out; omega)
  have H2:GcdTwo w 549755813888 (Nat.gcd X Y) (X + Y) (.slice (some ⟨g1,0,none⟩) n c) (.slice (some ⟨g2,0,none⟩) m d) wr:=⟨_,n,c,_,m,d,X,Y,rfl,rfl,hf,hg,hb,hln,hlm,rfl,rfl⟩
  have hg0:Nat.gcd X Y ≤ X:=Nat.le_of_dvd (pos_of_len hf.sl hnp) (Nat.gcd_dvd_left _ _)
  clear HX HK hf hg hb
  have hcs:((x0:Int) % 2 == 0) = false ∨ ((x0:Int) % 2 == 0) = true ∧ ((y0:Int) % 2 == 0) = false:=by
   rcases Nat.mod_two_eq_zero_or_one x0 with h | h
   ·right
    refine ⟨by simp; omega,?_⟩
    have:¬ y0 % 2 = 0:=fun h2 => hboth ⟨h,h2⟩
    simp; omega
   left; simp; omega
  generalize Nat.gcd X Y = G at *
  generalize X + Y = K at *
  clear hzx hzy hboth HXE HYE
  rcases hcs with hzx2 | ⟨hzx2,hzy2⟩
  all_goals
   go_wp2_with fail
   clear hxc hyc hx1 hy1 hg11 hg12 hg21 hg22
   go_loopg [0,1] K (fun k a b wr => GcdTwo w 549755813888 G k a b wr)
   case atStart => exact H2
   case round =>
    clear H2
    obtain ⟨p,n,c,q,m,d,X,Y,rfl,rfl,hf,hg,hb,hln,hlm,HG2,HK⟩:=hrel
    rcases Nat.eq_zero_or_pos n with hn0 | hn0
    ·have hz5:decide ((0:Int) < (n:Int)) = false:=by simp; omega
     have hz6:((n:Int) == 0) = true:=by simp; omega
     go_wp2_with fail
     refine (rleft_any hg.sl (by omega) (by omega)).mono ?_
     have hX0:=zero_of_len hf.sl hn0
     have hG2:=HG2.out
     rw [hX0,Nat.gcd_zero_left] at hG2
     rw [vLm,hG2,HG.out]
     rintro e w5 ⟨p5,n5,c5,rfl,hf5,hb5⟩
     clear hG2 hX0
     go_wp2_with fail
     go_ret
     exact ⟨_,_,_,rfl,hf5.mono hb.size,hb.trans (hb5.mono hb.size)⟩
    have hz5:decide ((0:Int) < (n:Int)) = true:=by simp; omega
    rcases Nat.eq_zero_or_pos m with hm0 | hm0
    ·have hz6:decide ((0:Int) < (m:Int)) = false:=by simp; omega
     have hz7:((n:Int) == 0) = false:=by simp; omega
     go_wp2_with fail
     refine (rleft_any hf.sl (by omega) (by omega)).mono ?_
     have hY0:=zero_of_len hg.sl hm0
     have hG2:=HG2.out
     rw [hY0,Nat.gcd_zero_right] at hG2
     rw [vLm,hG2,HG.out]
     rintro e w5 ⟨p5,n5,c5,rfl,hf5,hb5⟩
     clear hG2 hY0
     go_wp2_with fail
     go_ret
     exact ⟨_,_,_,rfl,hf5.mono hb.size,hb.trans (hb5.mono hb.size)⟩
    have hz6:decide ((0:Int) < (m:Int)) = true:=by simp; omega
    have HA0:GcdIn w 549755813888 G q m d Y X X (.slice p n c) wr:=⟨p,n,c,X,rfl,hf,hg,hb,hln,hn0,Nat.le_refl _,HG2,rfl⟩
    go_wp2_with fail
    obtain ⟨wo,rfl⟩:∃ wo:World,wo = wr:=⟨_,rfl⟩
    clear hf hg hb HG2
    go_loopg [0] X (fun k a wr => GcdIn w 549755813888 G q m d Y X k a wr)
    case atStart => exact HA0
    case round =>
     clear HA0
     obtain ⟨p,n,c,X1,rfl,hf,hg,hb,hln,hnp,hX1,HG2,HK1⟩:=hrel
     obtain ⟨g1,rfl,hg11,hg12⟩:=hf.pos hnp
     have hxc:=hf.cellAt hnp
     have hx1:=hf.sl.lim1 0
     have HXE:=Lib.hid (low_even (X:=X1))
     generalize nd (lim X1) 0 = x0 at *
     by_cases hev:x0 % 2 = 0
     ·have hz2:((x0:Int) % 2 == 0) = true:=by simp; omega
      go_wp2_with fail
      refine (rhalf_any hf.sl (by omega)).mono ?_
      rw [vLm]
      rintro e w5 ⟨p5,n5,c5,rfl,hf5,hb5⟩
      have hx2:X1 % 2 = 0:=by have:=HXE.out; omega
      have hX0:=pos_of_len hf.sl hnp
      have hl5:n5 ≤ n:=by rw [hf5.sl.lln,hf.sl.lln]; exact ll_mono (Nat.div_le_self _ _)
      have hp5:=len_of_pos hf5.sl (by omega)
      have hlt:X1 / 2 < gk:=by rw [← HK1.out]; omega
      have hle:X1 / 2 ≤ X:=by omega
      have HX2:Hid (Nat.gcd (X1 / 2) Y = G):=by
       show _ = _
       have h1:=gcd_odd_half (A:=X1) (C:=Y) hx2 (by rw [HG2.out]; exact HODD.out)
       rw [h1]; exact HG2.out
      clear hx2
      go_wp2_with fail
      go_roundg (X1 / 2)
      case measure => exact hlt
      case rel => exact ⟨p5,n5,c5,X1 / 2,rfl,hf5.mono hb.size,hg.below hb5 (Nat.le_refl _),hb.trans (hb5.mono hb.size),by omega,hp5,hle,HX2,rfl⟩
     have hz2:((x0:Int) % 2 == 0) = false:=by simp; omega
     have HGs:Hid (Nat.gcd Y X1 = G):=by show _ = _; rw [Nat.gcd_comm]; exact HG2.out
     have hX1p:=pos_of_len hf.sl hnp
     have HB0:GcdIn w 549755813888 G (some ⟨g1,0,none⟩) n c X1 Y Y (.slice q m d) wr:=⟨q,m,d,Y,rfl,hg,hf,hb,hlm,hm0,Nat.le_refl _,HGs,rfl⟩
     clear HG2 HGs HK1
     go_wp2_with fail
     clear hxc hf hg hb
     obtain ⟨wo,rfl⟩:∃ wo:World,wo = wr:=⟨_,rfl⟩
     go_loopg [1] Y (fun k b wr => GcdIn w 549755813888 G (some ⟨g1,0,none⟩) n c X1 Y k b wr)
     case atStart => exact HB0
     case round =>
      clear HB0
      obtain ⟨q,m,d,Y1,rfl,hg,hf,hb,hlm,hmp,hY1,HG2,HK1⟩:=hrel
      obtain ⟨g2,rfl,hg21,hg22⟩:=hg.pos hmp
      have hyc:=hg.cellAt hmp
      have hy1:=hg.sl.lim1 0
      have HYE:=Lib.hid (low_even (X:=Y1))
      generalize nd (lim Y1) 0 = y0 at *
      by_cases hev2:y0 % 2 = 0
      ·have hz3:((y0:Int) % 2 == 0) = true:=by simp; omega
       go_wp2_with fail
       refine (rhalf_any hg.sl (by omega)).mono ?_
       rw [vLm]
       rintro e w5 ⟨p5,n5,c5,rfl,hf5,hb5⟩
       have hx2:Y1 % 2 = 0:=by have:=HYE.out; omega
       have hX0:=pos_of_len hg.sl hmp
       have hl5:n5 ≤ m:=by rw [hf5.sl.lln,hg.sl.lln]; exact ll_mono (Nat.div_le_self _ _)
       have hp5:=len_of_pos hf5.sl (by omega)
       have hlt:Y1 / 2 < gk:=by rw [← HK1.out]; omega
       have hle:Y1 / 2 ≤ Y:=by omega
       have HX2:Hid (Nat.gcd (Y1 / 2) X1 = G):=by
        show _ = _
        have h1:=gcd_odd_half (A:=Y1) (C:=X1) hx2 (by rw [HG2.out]; exact HODD.out)
        rw [h1]; exact HG2.out
       clear hx2
       go_wp2_with fail
       go_roundg (Y1 / 2)
       case measure => exact hlt
       case rel => exact ⟨p5,n5,c5,Y1 / 2,rfl,hf5.mono hb.size,hf.below hb5 (Nat.le_refl _),hb.trans (hb5.mono hb.size),by omega,hp5,hle,HX2,rfl⟩
      have hz3:((y0:Int) % 2 == 0) = false:=by simp; omega
      have hY1p:=pos_of_len hg.sl hmp
      go_wp2_with fail
      refine (rcmp_any hf.sl hg.sl).mono ?_
      rw [vLm,vLm]
      rintro e w6 ⟨rfl,rfl⟩
      rcases Nat.lt_or_ge X1 Y1 with hxy | hxy
      ·obtain ⟨cc,hcc,hcc0⟩:∃ cc:Int,cmpN X1 Y1 = cc ∧ cc < 0:=⟨_,rfl,cmpN_below hxy⟩
       rw [hcc]
       have hz8:decide ((0:Int) ≤ cc) = false:=by simp; omega
       clear hcc
       go_wp2_with fail
       refine (rsub_any hg.sl hf.sl (by omega) (by rw [vLm,vLm]; omega)).mono ?_
       rw [vLm,vLm]
       rintro e w7 ⟨p7,n7,c7,rfl,hf7,hb7⟩
       have hl7:n7 ≤ m:=by rw [hf7.sl.lln,hg.sl.lln]; exact ll_mono (Nat.sub_le _ _)
       have hlt:X1 + (Y1 - X1) < X + Y:=by omega
       have HX2:Hid (Nat.gcd X1 (Y1 - X1) = G):=by show _ = _; rw [Nat.gcd_comm,gcd_less (by omega)]; exact HG2.out
       go_wp2_with fail
       go_roundg (X1 + (Y1 - X1))
       case measure => exact HK.out ▸ hlt
       case rel => exact ⟨_,n,c,p7,n7,c7,X1,Y1 - X1,rfl,rfl,hf.below hb7 (Nat.le_refl _),hf7.mono hb.size,hb.trans (hb7.mono hb.size),by omega,by omega,HX2,rfl⟩
      obtain ⟨cc,hcc,hcc0⟩:∃ cc:Int,cmpN X1 Y1 = cc ∧ 0 ≤ cc:=⟨_,rfl,cmpN_not_below hxy⟩
      rw [hcc]
      have hz8:decide ((0:Int) ≤ cc) = true:=by simp; omega
      clear hcc
      go_wp2_with fail
      refine (rsub_any hf.sl hg.sl (by omega) (by rw [vLm,vLm]; omega)).mono ?_
      rw [vLm,vLm]
      rintro e w7 ⟨p7,n7,c7,rfl,hf7,hb7⟩
      have hl7:n7 ≤ n:=by rw [hf7.sl.lln,hf.sl.lln]; exact ll_mono (Nat.sub_le _ _)
      have hlt:X1 - Y1 + Y1 < X + Y:=by omega
      have HX2:Hid (Nat.gcd (X1 - Y1) Y1 = G):=by show _ = _; rw [gcd_less (by omega),Nat.gcd_comm]; exact HG2.out
      go_wp2_with fail
      go_roundg (X1 - Y1 + Y1)
      case measure => exact HK.out ▸ hlt
      case rel => exact ⟨p7,n7,c7,_,m,d,X1 - Y1,Y1,rfl,rfl,hf7.mono hb.size,hg.below hb7 (Nat.le_refl _),hb.trans (hb7.mono hb.size),by omega,by omega,HX2,rfl⟩
open Go.RowKit
end Go.Proofs.YtnlnibngpeempaaGreatDoor
