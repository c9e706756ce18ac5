/-
  Contracts and lemmas, joined in one text.
-/
import Derived.Test.YtnlnibngpeempaaGreatDoorWB
import Derived.Maps.OwnSet
import Derived.Test.YtnlnibngpeempaaGreatDoorRF
import Derived.Test.YtnlnibngpeempaaGreatDoorZB
import Derived.Lib.SliceRun
set_option linter.unusedVariables false
set_option linter.unusedSimpArgs false
/-
  A map from words to integers,as a resource: which keys it holds.
-/
namespace Go.Proofs.YtnlnibngpeempaaGreatDoor
open Go.RowKit
section
variable {P:Program} {n d:Nat} {f:Nat → Value} {w0 w:World} {R:List Res} {o:Oper} {K:Act → World → Prop} {Q:Exit → Act → World → Prop} {t k e:TypeId} {g:Nat} {L:List Nat}
end
open Go.RowKit
def Res.pack (rs:List Res):Res where
 own:=true
 arg:=false
 foot k := ∃ r ∈ rs,r.foot k
 holds w:=(∀ r ∈ rs,r.holds w) ∧ rs.Pairwise Apart
 lt w h k hk:=by
  obtain ⟨r,hr,hk⟩:=hk
  exact r.lt w (h.1 r hr) k hk
 stays w w' he h:=⟨fun r hr => r.stays w w' (fun g hg => he g ⟨r,hr,hg⟩) (h.1 r hr),h.2⟩
theorem Sep.pack {w0 w:World} (rs:List Res) {R:List Res} (ho:rs.all (fun r => r.own && !r.arg) = true) (h:Sep w0 (rs ++ R) w):Sep w0 (.pack rs :: R) w:=by
 have hap:=List.pairwise_append.1 h.apart
 have hown:∀ r ∈ rs,r.own = true ∧ r.arg = false:=fun r hr => by
  have:=List.all_eq_true.1 ho r hr
  simpa using this
 refine ⟨h.below,fun r hr => ?_,fun r hr ha g hg => ?_,List.pairwise_cons.2 ⟨fun s hs _ g hg hs' => ?_,hap.2.1⟩⟩
 ·rcases List.mem_cons.1 hr with rfl | hr
  ·exact ⟨fun r hr => h.holds r (List.mem_append_left _ hr),hap.1⟩
  exact h.holds r (List.mem_append_right _ hr)
 ·rcases List.mem_cons.1 hr with rfl | hr
  ·obtain ⟨s,hs,hsg⟩:=hg
   exact h.low s (List.mem_append_left _ hs) (hown s hs).2 g hsg
  exact h.low r (List.mem_append_right _ hr) ha g hg
 obtain ⟨r,hr,hrg⟩:=hg
 exact hap.2.2 r hr s hs (by rw [(hown r hr).1,Bool.true_or]) g hrg hs'
def RetS (T:Tell) (w0:World) (R:List Res) (e:Ending) (w':World):Prop := ∃ v r,e = .returned v ∧ T v r ∧ Sep w0 (r ++ R) w'
theorem Sep.nilRowm {w0 w:World} {R:List Res} (h:Sep w0 R w):Sep w0 (.rowm none 0 0 [] :: R) w :=
  h.add (Below.refl _ _) _ (Fr.nil _ _) (fun g hg => by cases hg)
theorem Sep.nilLst {w0 w:World} {R:List Res} (e:TypeId) (sz:Nat) (h:Sep w0 R w):Sep w0 (.lst e sz none 0 0 [] :: R) w:=by
 refine h.add (Below.refl _ _) _ ⟨Els.nil,rfl,fun r hr => ?_,List.pairwise_singleton _ _⟩ (fun g hg => ?_)
 ·rw [List.mem_singleton.1 hr]
  exact World.ownsRow_nil _ _ _ _
 rcases hg with hg | ⟨r,hr,_⟩
 ·cases hg
 cases hr
theorem lim_small {x:Nat} (h0:0 < x) (hx:x < 4294967296):lim x = [x]:=by
  have h:ll x = 1:=ll_eq (k:=0) (by simpa using hx) (by rw [Nat.pow_zero]; exact h0)
  unfold lim
  rw [h]
  simp [Nat.mod_eq_of_lt hx]
def Nr (w:World) (p:Option Addr) (n c:Nat) (x k:Nat):Prop := ∃ xs,Sl w p n c xs ∧ val xs = x ∧ n ≤ k
theorem Nr.mono {w:World} {p:Option Addr} {n c x k l:Nat} (h:Nr w p n c x k) (hk:k ≤ l):Nr w p n c x l:=by
  obtain ⟨xs,h1,h2,h3⟩:=h; exact ⟨xs,h1,h2,Nat.le_trans h3 hk⟩
theorem Nr.on {w w':World} {p:Option Addr} {n c x k B:Nat} (h:Nr w p n c x k) (hb:Below B w w') (hB:w.heap.size ≤ B):Nr w' p n c x k:=by
  obtain ⟨xs,h1,h2,h3⟩:=h; exact ⟨xs,h1.below hb hB,h2,h3⟩
theorem Nr.at {w w':World} {R:List Res} {p:Option Addr} {n c x k:Nat} (h:Nr w p n c x k) (hS:Sep w R w'):Nr w' p n c x k:=h.on hS.below (Nat.le_refl _)
theorem Nr.nil (w:World):Nr w none 0 0 0 0:=⟨[],Sl.nil w,rfl,Nat.le_refl _⟩
theorem Sl.nr {w:World} {p:Option Addr} {n c k x:Nat} (h:Sl w p n c (lim x)) (hk:ll x ≤ k):Nr w p n c x k:=⟨_,h,vLm _,by rw [h.lln]; exact hk⟩
theorem Nr.ll {w:World} {p:Option Addr} {n c k x:Nat} (h:Nr w p n c x k):ll x ≤ k:=by
  obtain ⟨xs,h1,rfl,h3⟩:=h
  exact llv_val h1 h3
theorem Nr.zr {w:World} {p:Option Addr} {n c k x:Nat} (h:Nr w p n c x k):Zr w false p n c (x:Int) k:=by
  obtain ⟨xs,h1,rfl,h3⟩:=h
  exact ⟨xs,h1,rfl,h3⟩
theorem Zr.nr {w:World} {b:Bool} {p:Option Addr} {n c k:Nat} {z:Int} (h:Zr w b p n c z k):Nr w p n c z.natAbs k:=by
  obtain ⟨xs,h1,rfl,h3⟩:=h
  exact ⟨xs,h1,(natAbs_zv _ _).symm,h3⟩
theorem Nr.blk {w:World} {g x:Nat} {t:TypeId} (h:w.heap[g]? = some (.cells [.int .u32 ((x:Nat):Int)].toArray t)) (h0:x ≠ 0) (hx:x < 4294967296):Nr w (some ⟨g,0,none⟩) 1 1 x 1:=by
  have e:lim x = [x]:=lim_small (by omega) hx
  refine ⟨lim x,⟨by rw [e]; rfl,Nat.le_refl _,by simp [maxLen],lims_lim _,(fun h => by cases h),fun i hi => ⟨g,0,rfl,?_⟩⟩,vLm _,Nat.le_refl _⟩
  obtain rfl:i = 0:=by omega
  rw [e]
  exact box_cells (cs:=[.int .u32 (x:Int)]) h 0 _ rfl
theorem Nd.add {x y z k l m:Nat} (hx:ll x ≤ k) (hy:ll y ≤ l) (hz:Hid (x + y = z)) (h:max k l + 1 ≤ m):ll z ≤ m:=by
  rw [← hz.out]
  exact llv_add (i:=max k l) (by omega) (by omega) h
theorem Nd.mul {x y z k l m:Nat} (hx:ll x ≤ k) (hy:ll y ≤ l) (hz:Hid (x * y = z)) (h:k + l ≤ m):ll z ≤ m:=by
  rw [← hz.out]
  exact llv_mul hx hy h
theorem Nd.sub {x y z k:Nat} (hx:ll x ≤ k) (hz:Hid (x - y = z)):ll z ≤ k:=by
  rw [← hz.out]
  exact llv_le (Nat.sub_le _ _) hx
theorem Nd.gcd {x y z k l:Nat} (hx:ll x ≤ k) (hy:ll y ≤ l) (hz:Hid (Nat.gcd x y = z)):ll z ≤ max k l:=by
  rw [← hz.out]
  rcases Nat.eq_zero_or_pos x with rfl | h
  · rw [Nat.gcd_zero_left]; omega
  exact Nat.le_trans (llv_le (Nat.le_of_dvd h (Nat.gcd_dvd_left _ _)) hx) (by omega)
theorem Nd.u64 {x:Nat} (hx:x < 18446744073709551616):ll x ≤ 2:=ll_le (by omega)
theorem Nd.u32 {x:Nat} (hx:x < 4294967296):ll x ≤ 1:=ll_le (by omega)
def Nw (xs:List Nat):Tell:=fun v r => ∃ p n c,v = .slice p n c ∧ r = [.rowm p n c xs]
theorem Nt.m {w:World} {xs:List Nat} (e:Ending) (w':World) (h:Ret (Nt xs) w e w'):Ret (Nw xs) w e w':=by
  obtain ⟨_,_,rfl,⟨p,n,c,rfl,rfl⟩,hN⟩:=h
  refine ⟨_,_,rfl,⟨p,n,c,rfl,rfl⟩,New.one hN.below ?_ (fun g hg => hN.high (.row p n c xs) List.mem_cons_self g hg)⟩
  exact (show Fr 0 w' p n c xs from hN.holds (.row p n c xs) List.mem_cons_self)
section
variable {p q:Option Addr} {n m c d x y z:Nat} {w:World}
theorem wnadd (hx:Nr w p n c x 4294967296) (hy:Nr w q m d y 4294967296) (hz:Hid (x + y = z)):Calls Tryz.prog 42 #[.slice p n c,.slice q m d] w (Ret (Nt (lim z)) w):=by
  obtain ⟨xs,h1,rfl,h2⟩:=hx
  obtain ⟨ys,h3,rfl,h4⟩:=hy
  rw [← hz.out]
  exact (add_any h1 h3 (by omega) (by omega)).mono RetN.u
theorem wnmul (hx:Nr w p n c x 4294967296) (hy:Nr w q m d y 4294967296) (hz:Hid (x * y = z)):Calls Tryz.prog 41 #[.slice p n c,.slice q m d] w (Ret (Nt (lim z)) w):=by
  obtain ⟨xs,h1,rfl,h2⟩:=hx
  obtain ⟨ys,h3,rfl,h4⟩:=hy
  rw [← hz.out]
  exact (mul_any h1 h3 (by omega) (by omega)).mono RetN.u
theorem wncmp {k l:Nat} {s:Int} (hx:Nr w p n c x k) (hy:Nr w q m d y l) (hs:Hid (cmpN x y = s)):Calls Tryz.prog 40 #[.slice p n c,.slice q m d] w (Ret (Is (.int .i64 s)) w):=by
  obtain ⟨xs,h1,rfl,h2⟩:=hx
  obtain ⟨ys,h3,rfl,h4⟩:=hy
  rw [← hs.out]
  exact (cmp_any h1 h3).mono RetInt.u
theorem wmcmp {k l:Nat} {s:Int} (hx:Nr w p n c x k) (hy:Nr w q m d y l) (hs:Hid (cmpN x y = s)):Calls Tryz.prog 13 #[.slice p n c,.slice q m d] w (Ret (Is (.int .i64 s)) w):=by
  obtain ⟨xs,h1,rfl,h2⟩:=hx
  obtain ⟨ys,h3,rfl,h4⟩:=hy
  rw [← hs.out]
  exact (rcmp_any h1 h3).mono same_u
end
open Go.RowKit
section
variable {P:Program} {o:Oper} {n d:Nat} {f:Nat → Value} {w:World} {K:Act → World → Prop} {Q:Exit → Act → World → Prop}
theorem oNC {x:Operand} {a:Addr} (hop:o.op = .nilCheck x) (ho:o.dst = some d) (hx:(act n f).eval x = .pointer (some a)) (hK:K (act n (upd f d (.pointer (some a)))) w):OW P o (act n f) w K Q :=
  oval ho (by simp [execOp,hop,hx]) rfl hK
section
variable {t e k:TypeId} {x y:Operand} {c:Bool} {ms:Array (String × TypeId)}
end
end
end Go.Proofs.YtnlnibngpeempaaGreatDoor
