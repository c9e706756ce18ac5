/-
  Contracts and lemmas, joined in one text.
-/
import Derived.Test.YtjnpdpcldmjdjaaGreatDoorWB
import Derived.Maps.OwnSet
import Derived.Test.YtjnpdpcldmjdjaaGreatDoorRF
import Derived.Test.YtjnpdpcldmjdjaaGreatDoorZB
import Derived.Lib.SliceRun
set_option linter.unusedVariables false
set_option linter.unusedSimpArgs false
/-
  A map from words to integers,as a resource: which keys it holds.
-/
namespace Go.Proofs.YtjnpdpcldmjdjaaGreatDoor
open Go.RowKit
def Res.mp (P:Program) (k e:TypeId) (g:Nat) (L:List Nat):Res where
 own:=true
 arg:=false
 foot j:=j = g
 holds w := ∃ D:DataW Unit,w.ownsMap P k (plainElem P e) g L.length D ∧ ∀ p:Nat,p < 4294967296 → Maps.has D (.int .u32 (p:Int)) = decide (p ∈ L)
 lt w h j hj:=by
  obtain ⟨D,h,_⟩:=h
  subst hj
  exact h.lt
 stays w w' he h:=by
  obtain ⟨D,⟨es,clock,hb,r⟩,h2⟩:=h
  exact ⟨D,⟨es,clock,(he g rfl).trans hb,r⟩,h2⟩
theorem wf_int {k:IntKind} {n:Int} (h1:k.min ≤ n) (h2:n ≤ k.max):(Lit.int k n).wf = true:=by
  simp only [Lit.wf,Bool.and_eq_true,decide_eq_true_eq]
  exact ⟨h1,h2⟩
theorem wf_u32 {p:Nat} (h:p < 4294967296):(Lit.int .u32 (p:Int)).wf = true:=by
  refine wf_int ?_ ?_
  · show (0:Int) ≤ _; omega
  show _ ≤ (4294967295:Int); omega
theorem lit_ne {p q:Nat} (h:p ≠ q):(Lit.int .u32 (p:Int)) ≠ .int .u32 (q:Int):=fun e => h (by
  have:(p:Int) = (q:Int):=by injection e
  omega)
section
variable {P:Program} {n d:Nat} {f:Nat → Value} {w0 w:World} {R:List Res} {o:Oper} {K:Act → World → Prop} {Q:Exit → Act → World → Prop} {t k e:TypeId} {g:Nat} {L:List Nat}
theorem omakeMap (hS:Sep w0 R w) (hop:o.op = .makeMap t none) (ho:o.dst = some d)
  (hK:∀ g w',Sep w0 (.mp P k e g [] :: R) w' → K (act n (upd f d (.map (some g)))) w'):OW P o (act n f) w K Q:=by
 refine ⟨?_⟩
 have h1:(Res.mp P k e w.heap.size []).holds (w.alloc (.map #[] 0)):=⟨.map [],World.ownsMap_made w P k _,fun p _ => by simp [Maps.has]⟩
 have:=hK _ _ (hS.add ((Below.refl _ _).alloc (Nat.le_refl _) _) _ h1 (fun g hg => by have hg':g = w.heap.size:=hg; omega))
 unfold Oper.wp
 simp only [execOp,hop,Option.map_none]
 rw [Sem.run_bind,run_makeMap,Result.andThen_ok,Sem.run_pure,Oper.upon_value,ho,act_put]
 exact this
theorem olookup {x y:Operand} {p:Nat} {b:Bool} (hS:Sep w0 R w) (i:Nat) (hop:o.op = .lookup t x y true) (ho:o.dst = some d) (ht:P.underlying t = some (.map k e)) (hk:P.underlying k = some (.int .u32)) (he:P.underlying e = some (.int .i64))
  (hz:∀ w,(zeroValue e).run P w = .ok (.int .i64 0) w) (hx:(act n f).eval x = .map (some g)) (hy:(act n f).eval y = .int .u32 (p:Int)) (hp:p < 4294967296) (hi:R[i]? = some (.mp P k e g L)) (hb:decide (p ∈ L) = b)
  (hK:∀ c:Int,K (act n (upd f d (.tuple #[.int .i64 c,.bool b]))) w):OW P o (act n f) w K Q:=by
 obtain ⟨D,hD,hL⟩:=(hS.get i hi:(Res.mp P k e g L).holds w)
 obtain ⟨v,ps,hrun,hv⟩:=hD.look_ok (Maps.int_keyed hk) ht (hz w) (zd:=.lit (.int .i64 0)) (zp:=[]) (plainElem_int he (by decide)) (Maps.keyOf_int_mk hk (wf_u32 hp))
 obtain ⟨c,rfl,_,_⟩:=plainElem_int_inv he hv
 rw [hL p hp,hb] at hrun
 refine ⟨?_⟩
 have:=hK c
 unfold Oper.wp
 simp only [execOp,hop,hx,hy]
 rw [Sem.run_bind,hrun,Result.andThen_ok,Sem.run_pure,Oper.upon_value,ho,act_put]
 exact this
theorem omapUpdate {x y z:Operand} {p c:Nat} (hS:Sep w0 R w) (i:Nat) (hop:o.op = .mapUpdate t x y z) (ho:o.dst = none) (ht:P.underlying t = some (.map k e)) (hk:P.underlying k = some (.int .u32)) (he:P.underlying e = some (.int .i64))
  (hx:(act n f).eval x = .map (some g)) (hy:(act n f).eval y = .int .u32 (p:Int)) (hzv:(act n f).eval z = .int .i64 (c:Int)) (hp:p < 4294967296) (hc:c < 9223372036854775808) (hl:L.length < maxLen) (hi:R[i]? = some (.mp P k e g L))
  (hK:∀ w',Sep w0 (R.set i (.mp P k e g (L ++ [p]))) w' → K (act n f) w'):OW P o (act n f) w K Q:=by
 obtain ⟨D,hD,hL⟩:=(hS.get i hi:(Res.mp P k e g L).holds w)
 have hkey:keyOf P k (.int .u32 (p:Int)) = some (.int .u32 (p:Int)):=Maps.keyOf_int_mk hk (wf_u32 hp)
 have hcw:(Lit.int .i64 (c:Int)).wf = true:=by
  refine wf_int ?_ ?_
  ·show (-9223372036854775808:Int) ≤ _; omega
  show _ ≤ (9223372036854775807:Int); omega
 obtain ⟨w',hrun,hD',es,clock,es',clock',hb,hw'⟩:=hD.store (Maps.int_keyed hk) ht hl hkey (plainElem_int he hcw)
 have hh:(Res.mp P k e g (L ++ [p])).holds w':=⟨_,hD'.mono (by simp),fun q hq => by
  by_cases e':q = p
  ·subst e'
   rw [Maps.has_put_same hD.isMap ((Maps.int_keyed hk).key hkey)]
   simp
  rw [Maps.has_put_other (lit_ne e'),hL q hq]
  simp [e']⟩
 have:=hK _ (hS.change i hi rfl rfl (fun _ h => h) (by
  rw [hw']
  exact ⟨rfl,rfl,rfl,by simp [ChangeMaps.setBlock],fun j hj => ChangeMaps.heap_setBlock_other hb _ (fun e => hj e)⟩) hh)
 refine ⟨?_⟩
 unfold Oper.wp
 simp only [execOp,hop,hx,hy,hzv]
 rw [Sem.run_bind,hrun,Result.andThen_ok,Sem.run_pure,Oper.upon_skip,ho]
 exact this
end
open Go.RowKit
def Res.pack (rs:List Res):Res where
 own:=true
 arg:=false
 foot k := ∃ r ∈ rs,r.foot k
 holds w:=(∀ r ∈ rs,r.holds w) ∧ rs.Pairwise Apart
 lt w h k hk:=by
  obtain ⟨r,hr,hk⟩:=hk
  exact r.lt w (h.1 r hr) k hk
 stays w w' he h:=⟨fun r hr => r.stays w w' (fun g hg => he g ⟨r,hr,hg⟩) (h.1 r hr),h.2⟩
theorem Sep.unpack {w0 w:World} {rs R:List Res} (h:Sep w0 (.pack rs :: R) w):Sep w0 (rs ++ R) w:=by
 have hap:=List.pairwise_cons.1 h.apart
 obtain ⟨h1,h2⟩:=(show (Res.pack rs).holds w from h.holds _ List.mem_cons_self)
 refine ⟨h.below,fun r hr => ?_,fun r hr ha g hg => ?_,List.pairwise_append.2 ⟨h2,hap.2,fun r hr s hs _ g hg hs' => ?_⟩⟩
 ·rcases List.mem_append.1 hr with hr | hr
  ·exact h1 r hr
  exact h.holds r (List.mem_cons_of_mem _ hr)
 ·rcases List.mem_append.1 hr with hr | hr
  ·exact h.low _ List.mem_cons_self rfl g ⟨r,hr,hg⟩
  exact h.low r (List.mem_cons_of_mem _ hr) ha g hg
 exact hap.1 s hs rfl g ⟨r,hr,hg⟩ hs'
theorem Sep.pack {w0 w:World} (rs:List Res) {R:List Res} (ho:rs.all (fun r => r.own && !r.arg) = true) (h:Sep w0 (rs ++ R) w):Sep w0 (.pack rs :: R) w:=by
 have hap:=List.pairwise_append.1 h.apart
 have hown:∀ r ∈ rs,r.own = true ∧ r.arg = false:=fun r hr => by
  have:=List.all_eq_true.1 ho r hr
  simpa using this
 refine ⟨h.below,fun r hr => ?_,fun r hr ha g hg => ?_,List.pairwise_cons.2 ⟨fun s hs _ g hg hs' => ?_,hap.2.1⟩⟩
 ·rcases List.mem_cons.1 hr with rfl | hr
  ·exact ⟨fun r hr => h.holds r (List.mem_append_left _ hr),hap.1⟩
  exact h.holds r (List.mem_append_right _ hr)
 ·rcases List.mem_cons.1 hr with rfl | hr
  ·obtain ⟨s,hs,hsg⟩:=hg
   exact h.low s (List.mem_append_left _ hs) (hown s hs).2 g hsg
  exact h.low r (List.mem_append_right _ hr) ha g hg
 obtain ⟨r,hr,hrg⟩:=hg
 exact hap.2.2 r hr s hs (by rw [(hown r hr).1,Bool.true_or]) g hrg hs'
def RetS (T:Tell) (w0:World) (R:List Res) (e:Ending) (w':World):Prop := ∃ v r,e = .returned v ∧ T v r ∧ Sep w0 (r ++ R) w'
theorem Sep.nilRowm {w0 w:World} {R:List Res} (h:Sep w0 R w):Sep w0 (.rowm none 0 0 [] :: R) w :=
  h.add (Below.refl _ _) _ (Fr.nil _ _) (fun g hg => by cases hg)
theorem Sep.nilLst {w0 w:World} {R:List Res} (e:TypeId) (sz:Nat) (h:Sep w0 R w):Sep w0 (.lst e sz none 0 0 [] :: R) w:=by
 refine h.add (Below.refl _ _) _ ⟨Els.nil,rfl,fun r hr => ?_,List.pairwise_singleton _ _⟩ (fun g hg => ?_)
 ·rw [List.mem_singleton.1 hr]
  exact World.ownsRow_nil _ _ _ _
 rcases hg with hg | ⟨r,hr,_⟩
 ·cases hg
 cases hr
theorem lim_small {x:Nat} (h0:0 < x) (hx:x < 4294967296):lim x = [x]:=by
  have h:ll x = 1:=ll_eq (k:=0) (by simpa using hx) (by rw [Nat.pow_zero]; exact h0)
  unfold lim
  rw [h]
  simp [Nat.mod_eq_of_lt hx]
theorem Sep.blkRow {w0 w:World} {R:List Res} {g x:Nat} (h:Sep w0 (.blk g [.int .u32 ((x:Nat):Int)] 38 :: R) w) (h0:x ≠ 0) (hx:x < 4294967296):Sep w0 (.rowm (some ⟨g,0,none⟩) 1 1 (lim x) :: R) w:=by
 have e:lim x = [x]:=by
  rw [lim_small (by omega) hx]
 have hh:=(h.blkAt 0 rfl)
 have hs:=h.change 0 (r':=.rowm (some ⟨g,0,none⟩) 1 1 (lim x)) rfl rfl rfl (fun k hk => by
  have hk':some (⟨g,0,none⟩:Addr) = some ⟨k,0,none⟩:=hk
  simp only [Option.some.injEq,Addr.mk.injEq,and_true] at hk'
  exact hk'.symm) ⟨rfl,rfl,rfl,rfl,fun _ _ => rfl⟩ (w':=w) (by
   show Fr 0 w _ _ _ _
   rw [e]
   refine ⟨rfl,?_,⟨rfl,.inr ⟨g,1,_,rfl,Nat.zero_le _,hh,Nat.le_refl _,by simp [maxLen],rfl,rfl⟩⟩⟩
   rw [← e]; exact lims_lim _)
 exact hs
def Nr (w:World) (p:Option Addr) (n c:Nat) (x k:Nat):Prop := ∃ xs,Sl w p n c xs ∧ val xs = x ∧ n ≤ k
theorem Nr.mono {w:World} {p:Option Addr} {n c x k l:Nat} (h:Nr w p n c x k) (hk:k ≤ l):Nr w p n c x l:=by
  obtain ⟨xs,h1,h2,h3⟩:=h; exact ⟨xs,h1,h2,Nat.le_trans h3 hk⟩
theorem Nr.on {w w':World} {p:Option Addr} {n c x k B:Nat} (h:Nr w p n c x k) (hb:Below B w w') (hB:w.heap.size ≤ B):Nr w' p n c x k:=by
  obtain ⟨xs,h1,h2,h3⟩:=h; exact ⟨xs,h1.below hb hB,h2,h3⟩
theorem Nr.at {w w':World} {R:List Res} {p:Option Addr} {n c x k:Nat} (h:Nr w p n c x k) (hS:Sep w R w'):Nr w' p n c x k:=h.on hS.below (Nat.le_refl _)
theorem Nr.nil (w:World):Nr w none 0 0 0 0:=⟨[],Sl.nil w,rfl,Nat.le_refl _⟩
theorem Sl.nr {w:World} {p:Option Addr} {n c k x:Nat} (h:Sl w p n c (lim x)) (hk:ll x ≤ k):Nr w p n c x k:=⟨_,h,vLm _,by rw [h.lln]; exact hk⟩
theorem Nr.ll {w:World} {p:Option Addr} {n c k x:Nat} (h:Nr w p n c x k):ll x ≤ k:=by
  obtain ⟨xs,h1,rfl,h3⟩:=h
  exact llv_val h1 h3
theorem Nr.zr {w:World} {p:Option Addr} {n c k x:Nat} (h:Nr w p n c x k):Zr w false p n c (x:Int) k:=by
  obtain ⟨xs,h1,rfl,h3⟩:=h
  exact ⟨xs,h1,rfl,h3⟩
theorem Zr.nr {w:World} {b:Bool} {p:Option Addr} {n c k:Nat} {z:Int} (h:Zr w b p n c z k):Nr w p n c z.natAbs k:=by
  obtain ⟨xs,h1,rfl,h3⟩:=h
  exact ⟨xs,h1,(natAbs_zv _ _).symm,h3⟩
theorem Nr.blk {w:World} {g x:Nat} {t:TypeId} (h:w.heap[g]? = some (.cells [.int .u32 ((x:Nat):Int)].toArray t)) (h0:x ≠ 0) (hx:x < 4294967296):Nr w (some ⟨g,0,none⟩) 1 1 x 1:=by
  have e:lim x = [x]:=lim_small (by omega) hx
  refine ⟨lim x,⟨by rw [e]; rfl,Nat.le_refl _,by simp [maxLen],lims_lim _,(fun h => by cases h),fun i hi => ⟨g,0,rfl,?_⟩⟩,vLm _,Nat.le_refl _⟩
  obtain rfl:i = 0:=by omega
  rw [e]
  exact box_cells (cs:=[.int .u32 (x:Int)]) h 0 _ rfl
theorem Nd.add {x y z k l m:Nat} (hx:ll x ≤ k) (hy:ll y ≤ l) (hz:Hid (x + y = z)) (h:max k l + 1 ≤ m):ll z ≤ m:=by
  rw [← hz.out]
  exact llv_add (i:=max k l) (by omega) (by omega) h
theorem Nd.mul {x y z k l m:Nat} (hx:ll x ≤ k) (hy:ll y ≤ l) (hz:Hid (x * y = z)) (h:k + l ≤ m):ll z ≤ m:=by
  rw [← hz.out]
  exact llv_mul hx hy h
theorem Nd.sub {x y z k:Nat} (hx:ll x ≤ k) (hz:Hid (x - y = z)):ll z ≤ k:=by
  rw [← hz.out]
  exact llv_le (Nat.sub_le _ _) hx
theorem Nd.gcd {x y z k l:Nat} (hx:ll x ≤ k) (hy:ll y ≤ l) (hz:Hid (Nat.gcd x y = z)):ll z ≤ max k l:=by
  rw [← hz.out]
  rcases Nat.eq_zero_or_pos x with rfl | h
  · rw [Nat.gcd_zero_left]; omega
  exact Nat.le_trans (llv_le (Nat.le_of_dvd h (Nat.gcd_dvd_left _ _)) hx) (by omega)
theorem Nd.u64 {x:Nat} (hx:x < 18446744073709551616):ll x ≤ 2:=ll_le (by omega)
theorem Nd.u32 {x:Nat} (hx:x < 4294967296):ll x ≤ 1:=ll_le (by omega)
def Nw (xs:List Nat):Tell:=fun v r => ∃ p n c,v = .slice p n c ∧ r = [.rowm p n c xs]
theorem Nt.m {w:World} {xs:List Nat} (e:Ending) (w':World) (h:Ret (Nt xs) w e w'):Ret (Nw xs) w e w':=by
  obtain ⟨_,_,rfl,⟨p,n,c,rfl,rfl⟩,hN⟩:=h
  refine ⟨_,_,rfl,⟨p,n,c,rfl,rfl⟩,New.one hN.below ?_ (fun g hg => hN.high (.row p n c xs) List.mem_cons_self g hg)⟩
  exact (show Fr 0 w' p n c xs from hN.holds (.row p n c xs) List.mem_cons_self)
section
variable {p q:Option Addr} {n m c d x y z:Nat} {w:World}
theorem wnadd (hx:Nr w p n c x 4294967296) (hy:Nr w q m d y 4294967296) (hz:Hid (x + y = z)):Calls Tryz.prog 56 #[.slice p n c,.slice q m d] w (Ret (Nt (lim z)) w):=by
  obtain ⟨xs,h1,rfl,h2⟩:=hx
  obtain ⟨ys,h3,rfl,h4⟩:=hy
  rw [← hz.out]
  exact (add_any h1 h3 (by omega) (by omega)).mono RetN.u
theorem wnmul (hx:Nr w p n c x 4294967296) (hy:Nr w q m d y 4294967296) (hz:Hid (x * y = z)):Calls Tryz.prog 54 #[.slice p n c,.slice q m d] w (Ret (Nt (lim z)) w):=by
  obtain ⟨xs,h1,rfl,h2⟩:=hx
  obtain ⟨ys,h3,rfl,h4⟩:=hy
  rw [← hz.out]
  exact (mul_any h1 h3 (by omega) (by omega)).mono RetN.u
theorem wncmp {k l:Nat} {s:Int} (hx:Nr w p n c x k) (hy:Nr w q m d y l) (hs:Hid (cmpN x y = s)):Calls Tryz.prog 55 #[.slice p n c,.slice q m d] w (Ret (Is (.int .i64 s)) w):=by
  obtain ⟨xs,h1,rfl,h2⟩:=hx
  obtain ⟨ys,h3,rfl,h4⟩:=hy
  rw [← hs.out]
  exact (cmp_any h1 h3).mono RetInt.u
theorem wnof (hx:x < 18446744073709551616):Calls Tryz.prog 72 #[.int .u64 ((x:Nat):Int)] w (Ret (Nt (lim x)) w):=(of_any rfl hx).mono RetN.u
theorem wmadd (hx:Nr w p n c x 4294967296) (hy:Nr w q m d y 4294967296) (hz:Hid (x + y = z)):Calls Tryz.prog 33 #[.slice p n c,.slice q m d] w (Ret (Nt (lim z)) w):=by
  obtain ⟨xs,h1,rfl,h2⟩:=hx
  obtain ⟨ys,h3,rfl,h4⟩:=hy
  rw [← hz.out]
  exact (radd_any h1 h3 (by omega) (by omega)).mono RetN.u
theorem wmmul (hx:Nr w p n c x 4294967296) (hy:Nr w q m d y 4294967296) (hz:Hid (x * y = z)):Calls Tryz.prog 34 #[.slice p n c,.slice q m d] w (Ret (Nt (lim z)) w):=by
  obtain ⟨xs,h1,rfl,h2⟩:=hx
  obtain ⟨ys,h3,rfl,h4⟩:=hy
  rw [← hz.out]
  exact (rmul_any h1 h3 (by omega) (by omega)).mono RetN.u
theorem wmnorm (hx:Nr w p n c x 4294967296):Calls Tryz.prog 22 #[.slice p n c] w (Ret (Nt (lim x)) w):=by
  obtain ⟨xs,h1,rfl,h2⟩:=hx
  exact (rnorm_any h1 (by omega)).mono RetN.u
theorem wmof (hx:x < 18446744073709551616):Calls Tryz.prog 28 #[.int .u64 ((x:Nat):Int)] w (Ret (Nt (lim x)) w):=(rof_any rfl hx).mono RetN.u
theorem wmsame (hx:Sl w p n c (lim x)) (hy:Sl w q m d (lim y)) (he:x = y):Calls Tryz.prog 21 #[.slice p n c,.slice q m d] w (Ret (Is (.bool true)) w):=by
  subst he
  exact (same_yes hx hy).mono RetB.u
end
open Go.RowKit
section
variable {P:Program} {o:Oper} {n d:Nat} {f:Nat → Value} {w:World} {K:Act → World → Prop} {Q:Exit → Act → World → Prop}
theorem oNC {x:Operand} {a:Addr} (hop:o.op = .nilCheck x) (ho:o.dst = some d) (hx:(act n f).eval x = .pointer (some a)) (hK:K (act n (upd f d (.pointer (some a)))) w):OW P o (act n f) w K Q :=
  oval ho (by simp [execOp,hop,hx]) rfl hK
theorem omakeIface {t:TypeId} {x:Operand} {v:Value} {td:TypeDesc} (hop:o.op = .makeInterface t x) (ho:o.dst = some d) (ht:P.underlying t = some td) (hd:∀ ms,td ≠ .interface ms) (hx:(act n f).eval x = v) (hK:K (act n (upd f d (.iface t v))) w):OW P o (act n f) w K Q :=
 oval ho (by
  simp only [execOp,hop,hx]
  rw [Sem.run_bind]
  have:(Instr.makeInterface t v).run P w = .ok (.iface t v) w:=by
   unfold Instr.makeInterface
   rw [Sem.run_bind,run_underlying ht,Result.andThen_ok]
   cases td <;> first | rfl | exact absurd rfl (hd _)
  rw [this]; rfl) rfl hK
section
variable {t e k:TypeId} {x y:Operand} {c:Bool} {ms:Array (String × TypeId)}
theorem bin_neqP {a:Option Addr} (hu:P.underlying t = some (.pointer e)) (h:a.isSome = c):(do eqGuard .neq t x y (.pointer a) (.pointer none); binOp .neq t (.pointer a) (.pointer none):Sem Value).run P w = .ok (.bool c) w:=by
  subst h
  rw [eqGuard_at_pointer]
  have h:∀ d:Nat,(Op.equalIn (d + 1) t (.pointer a) (.pointer none)).run P w = .ok a.isNone w:=fun d => by cases a <;> simp [Op.equalIn,run_underlying hu]
  simp only [binOp]
  cases a <;> simp [Op.equal,Op.maxDepth,h 9999]
theorem bin_neqM {a:Option Nat} (hu:P.underlying t = some (.map k e)) (h:a.isSome = c):(do eqGuard .neq t x y (.map a) (.map none); binOp .neq t (.map a) (.map none):Sem Value).run P w = .ok (.bool c) w:=by
  subst h
  rw [eqGuard_at_map]
  have h:∀ d:Nat,(Op.equalIn (d + 1) t (.map a) (.map none)).run P w = .ok a.isNone w:=fun d => by cases a <;> simp [Op.equalIn,run_underlying hu]
  simp only [binOp]
  cases a <;> simp [Op.equal,Op.maxDepth,h 9999]
theorem bin_eqlS {p:Option Addr} {m cp:Nat} (hu:P.underlying t = some (.slice e)) (h:p.isNone = c):(do eqGuard .eql t x y (.slice p m cp) (.slice none 0 0); binOp .eql t (.slice p m cp) (.slice none 0 0):Sem Value).run P w = .ok (.bool c) w:=by
  subst h
  rw [eqGuard_at_slice]
  exact Lib.run_eql_slice_nil w _ _ p m cp 0 0 hu
theorem bin_neqI {z:TypeId} {v:Value} (hu:P.underlying t = some (.interface ms)):(do eqGuard .neq t x y (.iface z v) .nilIface; binOp .neq t (.iface z v) .nilIface:Sem Value).run P w = .ok (.bool true) w:=by
  rw [eqGuard_at_iface]
  have h:∀ d:Nat,(Op.equalIn (d + 1) t (.iface z v) .nilIface).run P w = .ok false w:=fun d => by simp [Op.equalIn,run_underlying hu]
  simp only [binOp]
  simp [Op.equal,Op.maxDepth,h 9999]
theorem bin_neqI0 {cc:Value} (hu:P.underlying t = some (.interface ms)):(do eqGuard .neq t x (.const cc) .nilIface .nilIface; binOp .neq t .nilIface .nilIface:Sem Value).run P w = .ok (.bool false) w:=by
  rw [eqGuard_nil_constR]
  have h:∀ d:Nat,(Op.equalIn (d + 1) t .nilIface .nilIface).run P w = .ok true w:=fun d => by simp [Op.equalIn,run_underlying hu]
  simp only [binOp]
  simp [Op.equal,Op.maxDepth,h 9999]
end
end
end Go.Proofs.YtjnpdpcldmjdjaaGreatDoor
