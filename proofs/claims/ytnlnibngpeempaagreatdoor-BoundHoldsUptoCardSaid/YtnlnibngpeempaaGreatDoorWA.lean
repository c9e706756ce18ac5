/-
  Contracts and lemmas, joined in one text.
-/
import Derived.Test.YtnlnibngpeempaaGreatDoorBA
import Derived.Deep.MidRow
import Derived.OrdersHeld
import Derived.Test.YtnlnibngpeempaaGreatDoorBD
import Derived.Test.YtnlnibngpeempaaGreatDoorBB
import Derived.Test.YtnlnibngpeempaaGreatDoorBC
import Derived.IntWalk
import Derived.Test.YtnlnibngpeempaaGreatDoorBG
import Derived.Test.YtnlnibngpeempaaGreatDoorBF
set_option linter.unusedVariables false
set_option linter.unusedSimpArgs false
/-
  A walk by small rules: frames as functions of the slot,the call's own memory as a list of apart blocks.
-/
set_option maxRecDepth 100000
set_option maxHeartbeats 16000000
namespace Go.Proofs.YtnlnibngpeempaaGreatDoor
open Go.RowKit
def upd (f:Nat → Value) (d:Nat) (v:Value):Nat → Value:=fun i => cond (Nat.beq i d) v (f i)
def act (n:Nat) (f:Nat → Value):Act:=⟨Array.ofFn fun i:Fin n => f i.val,[]⟩
theorem upd_same (f:Nat → Value) (d:Nat) (v:Value):upd f d v d = v:=by unfold upd; rw [Nat.beq_refl]; rfl
theorem upd_ne (f:Nat → Value) {d i:Nat} (v:Value) (h:i ≠ d):upd f d v i = f i:=by
  unfold upd
  cases e:Nat.beq i d
  · rfl
  exact absurd (Nat.eq_of_beq_eq_true e) h
theorem upd_self (f:Nat → Value) (d:Nat):upd f d (f d) = f:=by
  funext i
  by_cases h:i = d
  · subst h; exact upd_same _ _ _
  exact upd_ne _ _ h
theorem upd_is {f:Nat → Value} {d:Nat} {v:Value} (h:f d = v):f = upd f d v:=by rw [← h,upd_self]
theorem act_get {n d:Nat} {f:Nat → Value} (h:Nat.blt d n = true):(act n f).tmps[d]? = some (f d):=by
  have h':d < n:=by rw [Nat.blt_eq] at h; exact h
  simp [act,h']
theorem act_getD {n d:Nat} {f:Nat → Value} (h:Nat.blt d n = true):(act n f).tmps.getD d undef = f d:=by
  have h':d < n:=by rw [Nat.blt_eq] at h; exact h
  simp [act,Array.getD,h']
theorem act_eval {n d:Nat} {f:Nat → Value} (h:Nat.blt d n = true):(act n f).eval (.tmp d) = f d:=act_getD h
theorem ev {n d:Nat} {f:Nat → Value} {v:Value} (h:Nat.blt d n = true) (hv:f d = v):(act n f).eval (.tmp d) = v:=(act_eval h).trans hv
theorem evc {n:Nat} {f:Nat → Value} {v:Value}:(act n f).eval (.const v) = v:=rfl
theorem act_put (n:Nat) (f:Nat → Value) (d:Nat) (v:Value):(act n f).put (some d) v = act n (upd f d v):=by
 simp only [act,Act.put]
 congr 1
 apply Array.ext
 ·simp
 intro i h1 h2
 simp at h1 h2
 simp only [Array.getElem_ofFn]
 rw [Array.getElem_setIfInBounds (by simpa using h2)]
 by_cases e:d = i
 ·subst e; rw [if_pos rfl,upd_same]
 rw [if_neg e,upd_ne _ _ (fun h => e h.symm)]; simp
theorem wenter {P:Program} {F:FuncId} {fn:Func} {c:Code} {n:Nat} {args:Array Value} {w:World} {R:Ending → World → Prop}
  (hf:P.funcs[F]? = some fn) (hb:fn.body = some c) (hn:fn.ntmps = n) (ha:Nat.ble args.size n = true)
  (h:c.wp P (bodyPost P fn R) (act n (fun i => args.getD i undef)) w):Calls P F args w R:=by
 refine calls_of_wp hf hb ?_
 have e:({ tmps:=args ++ Array.replicate (fn.ntmps - args.size) undef,defers:=[] }:Act) = act n (fun i => args.getD i undef):=by
  have ha':args.size ≤ n:=Nat.le_of_ble_eq_true ha
  simp only [act,hn]
  congr 1
  apply Array.ext
  ·simp; omega
  intro i h1 h2
  simp only [Array.getElem_ofFn]
  rw [Array.getElem_append]
  split
  ·rename_i h3; simp [Array.getD,h3]
  rename_i h3; simp [Array.getD,h3]
 rw [e]
 exact h
structure Res where
  /-- May it be written? What may not be written may lie in one place with its like. -/
  own:Bool
  /-- Is it of an argument? -/
  arg:Bool
  foot:Nat → Prop
  holds:World → Prop
  lt:∀ w,holds w → ∀ g,foot g → g < w.heap.size
  stays:∀ w w',(∀ g,foot g → w'.heap[g]? = w.heap[g]?) → holds w → holds w'
def Res.blk (g:Nat) (cs:List Value) (t:TypeId):Res where
  own:=true
  arg:=false
  foot k:=k = g
  holds w:=w.heap[g]? = some (.cells cs.toArray t)
  lt w h k hk:=by subst hk; exact (Array.getElem?_eq_some_iff.1 h).1
  stays w w' he h:=(he g rfl).trans h
theorem Fr.at0 {B:Nat} {w:World} {p:Option Addr} {n c:Nat} {xs:List Nat} (h:Fr B w p n c xs):Fr 0 w p n c xs:=h.mono (Nat.zero_le _)
theorem Fr.same {B:Nat} {w w':World} {p:Option Addr} {n c:Nat} {xs:List Nat} (h:Fr B w p n c xs) (he:∀ g,p = some ⟨g,0,none⟩ → w'.heap[g]? = w.heap[g]?):Fr B w' p n c xs:=by
 refine ⟨h.len,h.lims,h.own.1,?_⟩
 rcases h.own.2 with h1 | ⟨g,cap,cur,h1,hbg,hg,r⟩
 ·exact .inl h1
 refine .inr ⟨g,cap,cur,h1,hbg,?_,r⟩
 simp only [Value.slice.injEq,true_and] at h1
 rw [he g h1.1]
 exact hg
theorem Fr.raise {B B':Nat} {w:World} {p:Option Addr} {n c:Nat} {xs:List Nat} (h:Fr B w p n c xs) (hB:∀ g,p = some ⟨g,0,none⟩ → B' ≤ g):Fr B' w p n c xs:=by
 refine ⟨h.len,h.lims,h.own.1,?_⟩
 rcases h.own.2 with h1 | ⟨g,cap,cur,h1,hbg,r⟩
 ·exact .inl h1
 have h2:=h1
 simp only [Value.slice.injEq,true_and] at h2
 exact .inr ⟨g,cap,cur,h1,hB g h2.1,r⟩
def Res.row (p:Option Addr) (n c:Nat) (xs:List Nat):Res where
  own:=false
  arg:=false
  foot k:=p = some ⟨k,0,none⟩
  holds w:=Fr 0 w p n c xs
  lt w h k hk:=by subst hk; exact h.block.2
  stays w w' he h:=h.same he
def Apart (r s:Res):Prop:=(r.own || s.own) = true → ∀ g,r.foot g → ¬ s.foot g
theorem Apart.symm {r s:Res} (h:Apart r s):Apart s r:=fun he g h1 h2 => h (by rw [Bool.or_comm]; exact he) g h2 h1
structure Sep (w0:World) (R:List Res) (w:World):Prop where
  below:Below w0.heap.size w0 w
  holds:∀ r ∈ R,r.holds w
  low:∀ r ∈ R,r.arg = false → ∀ g,r.foot g → w0.heap.size ≤ g
  apart:R.Pairwise Apart
theorem Sep.init (w:World):Sep w [] w:=⟨Below.refl _ _,(fun r h => by cases h),(fun r h => by cases h),List.Pairwise.nil⟩
theorem Sep.grow {w0:World} {R:List Res} {w w':World} (h:Sep w0 R w) (hb:Below w.heap.size w w'):Sep w0 R w' :=
  ⟨h.below.trans (hb.mono h.below.size),fun r hr => r.stays w w' (fun g hg => hb.block g (r.lt w (h.holds r hr) g hg)) (h.holds r hr),h.low,h.apart⟩
theorem Sep.drew {w0:World} {R:List Res} {w:World} (h:Sep w0 R w):Sep w0 R w.drew:=h.grow (Below.refl _ _).drew
theorem Sep.add {w0:World} {R:List Res} {w w':World} (h:Sep w0 R w) (hb:Below w.heap.size w w') (r:Res) (hr:r.holds w') (hf:∀ g,r.foot g → w.heap.size ≤ g):Sep w0 (r :: R) w':=by
 have h':=h.grow hb
 refine ⟨h'.below,fun s hs => ?_,fun s hs ha g hg => ?_,List.Pairwise.cons (fun s hs _ g hg hsg => ?_) h.apart⟩
 ·rcases List.mem_cons.1 hs with rfl | hs
  ·exact hr
  exact h'.holds s hs
 ·rcases List.mem_cons.1 hs with rfl | hs
  ·exact Nat.le_trans h.below.size (hf g hg)
  exact h.low s hs ha g hg
 have h1:=hf g hg
 have h2:=s.lt w (h.holds s hs) g hsg
 omega
theorem Sep.perm {w0:World} {R S:List Res} {w:World} (h:Sep w0 R w) (hp:R.Perm S):Sep w0 S w :=
  ⟨h.below,fun r hr => h.holds r (hp.mem_iff.2 hr),fun r hr => h.low r (hp.mem_iff.2 hr),(hp.pairwise_iff (R:=Apart) (fun hrs => hrs.symm)).1 h.apart⟩
theorem Sep.sub {w0:World} {R S:List Res} {w:World} (h:Sep w0 R w) (hs:S.Sublist R):Sep w0 S w :=
  ⟨h.below,fun r hr => h.holds r (hs.subset hr),fun r hr => h.low r (hs.subset hr),h.apart.sublist hs⟩
theorem Sep.get {w0:World} {R:List Res} {w:World} (h:Sep w0 R w) (k:Nat) {r:Res} (hk:R[k]? = some r):r.holds w:=h.holds r (List.mem_of_getElem? hk)
theorem Sep.blkAt {w0:World} {R:List Res} {w:World} (h:Sep w0 R w) (k:Nat) {g:Nat} {cs:List Value} {t:TypeId} (hk:R[k]? = some (.blk g cs t)):w.heap[g]? = some (.cells cs.toArray t):=h.get k hk
theorem Sep.rowAt {w0:World} {R:List Res} {w:World} (h:Sep w0 R w) (k:Nat) {p:Option Addr} {n c:Nat} {xs:List Nat} (hk:R[k]? = some (.row p n c xs)):Fr w0.heap.size w p n c xs :=
  (show Fr 0 w p n c xs from h.get k hk).raise (fun g hg => h.low _ (List.mem_of_getElem? hk) rfl g hg)
theorem Sep.sl {w0:World} {R:List Res} {w:World} (h:Sep w0 R w) (k:Nat) {p:Option Addr} {n c:Nat} {xs:List Nat} (hk:R[k]? = some (.row p n c xs)):Sl w p n c xs:=(h.rowAt k hk).sl
def Res.rd (p:Option Addr) (n c:Nat) (xs:List Nat):Res where
 own:=false
 arg:=true
 foot k:=0 < n ∧ ∃ o,p = some ⟨k,o,none⟩
 holds w:=Sl w p n c xs
 lt w h k hk:=by
  obtain ⟨hn,o,rfl⟩:=hk
  obtain ⟨b,off,hp,hc⟩:=h.cell 0 hn
  simp only [Option.some.injEq,Addr.mk.injEq,and_true] at hp
  obtain ⟨rfl,rfl⟩:=hp
  exact World.block_lt_of_cell? w _ hc
 stays w w' he h:=by
  refine ⟨h.len,h.le,h.cap,h.lims,h.isnil,fun i hi => ?_⟩
  obtain ⟨b,off,hp,hc⟩:=h.cell i hi
  refine ⟨b,off,hp,?_⟩
  rw [World.cell?_of_block (w:=w) (he b ⟨by omega,off,hp⟩)]
  exact hc
theorem Sep.alloc {w0:World} {R:List Res} {w:World} (h:Sep w0 R w) (cs:List Value) (t:TypeId):Sep w0 (.blk w.heap.size cs t :: R) (w.alloc (.cells cs.toArray t)) :=
  h.add ((Below.refl _ _).alloc (Nat.le_refl _) _) _ (heap_alloc_new w _) (fun g hg => by have hg':g = w.heap.size:=hg; omega)
def wr (cs:List Value):Nat → List Value → List Value
  | _,[] => cs
  | o,v :: vs => wr (cs.set o v) (o + 1) vs
theorem heap_setCells_same {g:Nat} {t:TypeId}:∀ (vs:List Value) (o:Nat) (w:World) (cs:List Value),w.heap[g]? = some (.cells cs.toArray t) → (w.setCells g o vs).heap[g]? = some (.cells (wr cs o vs).toArray t)
 | [],_,_,_,h => h
 | v :: vs,o,w,cs,h => by
  refine heap_setCells_same vs (o + 1) (w.setCell ⟨g,o,none⟩ v) (cs.set o v) ?_
  obtain ⟨h1,h2⟩:=Array.getElem?_eq_some_iff.1 h
  simp [World.setCell,h,h2,Array.getElem_modify,h1]
theorem setCells_frame {g:Nat}:∀ (vs:List Value) (o:Nat) (w:World),(w.setCells g o vs).os = w.os ∧ (w.setCells g o vs).tape = w.tape ∧ (w.setCells g o vs).output = w.output ∧ (w.setCells g o vs).heap.size = w.heap.size ∧ ∀ k,k ≠ g → (w.setCells g o vs).heap[k]? = w.heap[k]?
 | [],_,w => ⟨rfl,rfl,rfl,rfl,fun _ _ => rfl⟩
 | v :: vs,o,w => by
  obtain ⟨h1,h2,h3,h4,h5⟩:=setCells_frame (g:=g) vs (o + 1) (w.setCell ⟨g,o,none⟩ v)
  refine ⟨h1,h2,h3,h4.trans (by simp [World.setCell]),fun k hk => (h5 k hk).trans (Below.heap_setCell _ _ _ _ hk)⟩
theorem Sep.change {w0:World} {R:List Res} {w w':World} (h:Sep w0 R w) (k:Nat) {r r':Res} (hk:R[k]? = some r) (hown:r.own = true) (harg:r.arg = false) (hfoot:∀ g,r'.foot g → r.foot g)
  (he:w'.os = w.os ∧ w'.tape = w.tape ∧ w'.output = w.output ∧ w'.heap.size = w.heap.size ∧ ∀ j, ¬ r.foot j → w'.heap[j]? = w.heap[j]?) (hr:r'.holds w'):Sep w0 (R.set k r') w':=by
 have hkl:k < R.length:=(List.getElem?_eq_some_iff.1 hk).1
 have hmem:r ∈ R:=List.mem_of_getElem? hk
 have hother:∀ j s,R[j]? = some s → j ≠ k → ∀ g,s.foot g → ¬ r.foot g:=by
  intro j s hj hjk g h1 h2
  obtain ⟨hjl,rfl⟩:=List.getElem?_eq_some_iff.1 hj
  obtain ⟨_,hke⟩:=List.getElem?_eq_some_iff.1 hk
  subst hke
  rcases Nat.lt_or_gt_of_ne hjk with hlt | hlt
  ·exact (List.pairwise_iff_getElem.1 h.apart j k hjl hkl hlt) (by rw [hown,Bool.or_true]) g h1 h2
  exact (List.pairwise_iff_getElem.1 h.apart k j hkl hjl hlt) (by rw [hown,Bool.true_or]) g h2 h1
 refine ⟨⟨he.1.trans h.below.os,he.2.1.trans h.below.tape,he.2.2.1.trans h.below.output,by rw [he.2.2.2.1]; exact h.below.size,fun j hj => ?_⟩,fun s hs => ?_,fun s hs ha g hg => ?_,?_⟩
 ·rw [he.2.2.2.2 j (fun hf => by have:=h.low r hmem harg j hf; omega)]
  exact h.below.block j hj
 ·obtain ⟨j,hj⟩:=List.mem_iff_getElem?.1 hs
  rw [List.getElem?_set] at hj
  by_cases e:k = j
  ·subst e; simp [hkl] at hj; subst hj; exact hr
  rw [if_neg e] at hj
  exact s.stays w w' (fun g hg => he.2.2.2.2 g (hother j s hj (fun h => e h.symm) g hg)) (h.holds s (List.mem_of_getElem? hj))
 ·rcases List.mem_or_eq_of_mem_set hs with hs | rfl
  ·exact h.low s hs ha g hg
  exact h.low r hmem harg g (hfoot g hg)
 rw [List.pairwise_iff_getElem]
 intro i j hi hj hij he g h1 h2
 simp only [List.length_set] at hi hj
 rw [List.getElem_set] at h1 h2 he
 rw [List.getElem_set] at he
 obtain ⟨_,hke⟩:=List.getElem?_eq_some_iff.1 hk
 by_cases ei:k = i
 ·subst ei
  rw [if_pos rfl] at h1
  rw [if_neg (by omega)] at h2
  exact hother j _ (List.getElem?_eq_getElem hj) (by omega) g h2 (hfoot g h1)
 rw [if_neg ei] at h1
 by_cases ej:k = j
 ·subst ej
  rw [if_pos rfl] at h2
  exact hother i _ (List.getElem?_eq_getElem hi) (by omega) g h1 (hfoot g h2)
 rw [if_neg ej] at h2
 rw [if_neg ei,if_neg ej] at he
 exact (List.pairwise_iff_getElem.1 h.apart i j hi hj hij) he g h1 h2
theorem Sep.store {w0:World} {R:List Res} {w:World} (h:Sep w0 R w) (k:Nat) {g:Nat} {cs:List Value} {t:TypeId} (hk:R[k]? = some (.blk g cs t)) (o:Nat) (vs:List Value):Sep w0 (R.set k (.blk g (wr cs o vs) t)) (w.setCells g o vs):=by
  obtain ⟨h1,h2,h3,h4,h5⟩:=setCells_frame (g:=g) vs o w
  exact h.change k hk rfl rfl (fun _ h => h) ⟨h1,h2,h3,h4,fun j hj => h5 j hj⟩ (heap_setCells_same vs o w cs (h.blkAt k hk))
open Go.RowKit
section
variable {P:Program} {o:Oper} {n:Nat} {f:Nat → Value} {w w0:World} {R:List Res} {K:Act → World → Prop} {Q:Exit → Act → World → Prop} {d:Nat}
structure OW (P:Program) (o:Oper) (a:Act) (w:World) (K:Act → World → Prop) (Q:Exit → Act → World → Prop):Prop where
  out:o.wp P a w K Q
structure LW (P:Program) (ops:Array Oper) (Q:Exit → Act → World → Prop) (l:List Oper) (a:Act) (w:World):Prop where
  out:wpList P ops Q l a w
structure CW (P:Program) (c:Code) (Q:Exit → Act → World → Prop) (a:Act) (w:World):Prop where
  out:c.wp P Q a w
theorem OW.mono {a:Act} {K':Act → World → Prop} (h:OW P o a w K Q) (hK:∀ a w,K a w → K' a w):OW P o a w K' Q:=⟨Oper.wp_mono hK h.out⟩
theorem went {F:FuncId} {fn:Func} {c:Code} {args:Array Value} {R':Ending → World → Prop}
  (hf:P.funcs[F]? = some fn) (hb:fn.body = some c) (hn:fn.ntmps = n) (ha:Nat.ble args.size n = true)
  (h:CW P c (bodyPost P fn R') (act n (fun i => args.getD i undef)) w):Calls P F args w R':=wenter hf hb hn ha h.out
theorem wSk {a:Act} (h:Q .normal a w):CW P .skip Q a w:=⟨wp_skip h⟩
theorem wBk {id:Nat} {c:Code} {a:Act} (h:CW P c (Exit.inBlock id Q) a w):CW P (.block id c) Q a w:=⟨wp_block h.out⟩
theorem wEx {id:Nat} {a:Act} (h:Q (.exit id) a w):CW P (.exit id) Q a w:=⟨wp_exit h⟩
theorem wLv {a:Act} (h:Q .ret a w):CW P .ret Q a w:=⟨wp_ret h⟩
theorem wSq {x y:Code} {a:Act} (h:CW P x (Exit.then (fun a w => CW P y Q a w) Q) a w):CW P (Code.seq x y) Q a w :=
  ⟨wp_seq (Code.wp_mono (fun e a w q => by cases e <;> first | exact q | exact CW.out q) h.out)⟩
theorem wreg {id:Nat} {l:List Oper} {a:Act} (h:LW P l.toArray Q l a w):CW P (Code.region id l.toArray false) Q a w:=⟨wp_region_lit h.out⟩
theorem wnil {ops:Array Oper} {a:Act} (h:Q .normal a w):LW P ops Q [] a w:=⟨h⟩
theorem tNo {N:Act → World → Prop} {a:Act} (h:N a w):Exit.then N Q .normal a w:=h
theorem thenR {N:Act → World → Prop} {a:Act} (h:Q .ret a w):Exit.then N Q .ret a w:=h
theorem tEx {N:Act → World → Prop} {a:Act} {i:Nat} (h:Q (.exit i) a w):Exit.then N Q (.exit i) a w:=h
theorem blkN {a:Act} {i:Nat} (h:Q .normal a w):Exit.inBlock i Q .normal a w:=h
theorem blkR {a:Act} {i:Nat} (h:Q .ret a w):Exit.inBlock i Q .ret a w:=h
theorem blkE {a:Act} {i:Nat} (h:Q .normal a w):Exit.inBlock i Q (.exit i) a w:=by
  show (if i = i then Q .normal a w else Q (.exit i) a w)
  rw [if_pos rfl]; exact h
theorem blkX {a:Act} {i j:Nat} (hne:Nat.beq j i = false) (h:Q (.exit j) a w):Exit.inBlock i Q (.exit j) a w:=by
  show (if j = i then Q .normal a w else Q (.exit j) a w)
  rw [if_neg (fun e => by subst e; rw [Nat.beq_refl] at hne; cases hne)]; exact h
theorem wT {c:Operand} {x y:Code} {a:Act} (hc:a.eval c = .bool true) (h:CW P x Q a w):CW P (Code.cond c x y) Q a w:=⟨wp_cond_true hc h.out⟩
theorem wF {c:Operand} {x y:Code} {a:Act} (hc:a.eval c = .bool false) (h:CW P y Q a w):CW P (Code.cond c x y) Q a w:=⟨wp_cond_false hc h.out⟩
theorem least {p:Nat → Prop}:∀ k,p k → ∃ n,p n ∧ ∀ m,p m → n ≤ m:=by
 intro k
 induction k using Nat.strongRecOn with
 | _ k ih =>
  intro hk
  by_cases h:∃ m,m < k ∧ p m
  ·obtain ⟨m,hm,hp⟩:=h
   exact ih m hm hp
  exact ⟨k,hk,fun m hm => by
   rcases Nat.lt_or_ge m k with h' | h'
   ·exact absurd ⟨m,h',hm⟩ h
   exact h'⟩
theorem wLp {σ : Type} {c:Code} {a:Act} (I : σ → Act → World → Prop) (μ : σ → Nat) (s : σ) (h0:I s a w)
  (round:∀ s a w,I s a w → CW P c (Exit.then (fun a' w' => ∃ s',I s' a' w' ∧ μ s' < μ s) Q) a w):CW P (Code.loop c) Q a w:=by
 refine ⟨?_⟩
 have hex:∀ a w, ∃ n,(∃ s,I s a w) → (∃ s,I s a w ∧ μ s = n) ∧ ∀ s,I s a w → n ≤ μ s:=fun a w => by
  by_cases h:∃ s,I s a w
  ·obtain ⟨s,hs⟩:=h
   obtain ⟨m,hm,hle⟩:=least (p:=fun n => ∃ s,I s a w ∧ μ s = n) (μ s) ⟨s,hs,rfl⟩
   exact ⟨m,fun _ => ⟨hm,fun s' hs' => hle _ ⟨s',hs',rfl⟩⟩⟩
  exact ⟨0,fun h' => absurd h' h⟩
 let μ':Act → World → Nat:=fun a w => Classical.choose (hex a w)
 have hμ : ∀ a w,(∃ s,I s a w) → (∃ s,I s a w ∧ μ s = μ' a w) ∧ ∀ s,I s a w → μ' a w ≤ μ s:=fun a w => Classical.choose_spec (hex a w)
 refine wp_loop (fun a w => ∃ s,I s a w) μ' ⟨s,h0⟩ fun a w hs => ?_
 obtain ⟨⟨s1,hs1,he⟩,_⟩:=hμ a w hs
 refine wp_mono (round s1 a w hs1).out fun e a' w' hq => ?_
 cases e with
 | normal =>
  obtain ⟨s',hI,hlt⟩:=hq
  refine ⟨⟨s',hI⟩,?_⟩
  have:=(hμ a' w' ⟨s',hI⟩).2 s' hI
  omega
 | exit id => exact hq
 | goto l => exact hq
 | ret => exact hq
 | panic ch => exact hq
 | outgrown => exact hq
theorem wl {ops:Array Oper} {rest:List Oper} {a:Act} (hg:o.guard = none) (h:OW P o a w (fun a' w' => LW P ops Q rest a' w') Q):LW P ops Q (o :: rest) a w :=
  ⟨wpList_plain hg fun _ hK => Oper.wp_mono (fun a w h => hK a w h.out) h.out⟩
theorem want_on {ops:Array Oper} {g:Nat} {b:Bool} (hg:o.guard = some (g,b)) {e:Nat} (hs:(ops[g]?).bind (·.dst) = some e) (hd:Nat.blt e n = true) (hv:f e = .bool b):Region.wanted o (yielded ops (act n f).tmps) = true:=by
  simp [Region.wanted,hg,yielded,hs,act_get hd,hv]
theorem want_off {ops:Array Oper} {g:Nat} {b b':Bool} (hg:o.guard = some (g,b)) {e:Nat} (hs:(ops[g]?).bind (·.dst) = some e) (hd:Nat.blt e n = true) (hv:f e = .bool b') (hne:(b' == b) = false):Region.wanted o (yielded ops (act n f).tmps) = false:=by
  simp only [Region.wanted,hg,yielded,hs,act_get hd,hv,Option.bind_some]
  simpa using hne
theorem wlOn {ops:Array Oper} {rest:List Oper} {g:Nat} {b:Bool} (hg:o.guard = some (g,b)) {e:Nat} (hs:(ops[g]?).bind (·.dst) = some e) (hd:Nat.blt e n = true) (hv:f e = .bool b)
  (h:OW P o (act n f) w (fun a' w' => LW P ops Q rest a' w') Q):LW P ops Q (o :: rest) (act n f) w :=
 ⟨wpList_step fun K hK => by rw [if_pos (want_on hg hs hd hv)]; exact Oper.wp_mono (fun a w h => hK a w h.out) h.out⟩
theorem wlOff {ops:Array Oper} {rest:List Oper} {g:Nat} {b b':Bool} (hg:o.guard = some (g,b)) {e:Nat} (hs:(ops[g]?).bind (·.dst) = some e) (hd:Nat.blt e n = true) (hv:f e = .bool b') (hne:(b' == b) = false)
  (ho:o.dst = some d) (h:LW P ops Q rest (act n (upd f d undef)) w):LW P ops Q (o :: rest) (act n f) w :=
 ⟨wpList_step fun K hK => by rw [if_neg (by rw [want_off hg hs hd hv hne]; exact Bool.false_ne_true),ho,act_put]; exact hK _ _ h.out⟩
theorem oval {v:Value} {a:Act} (ho:o.dst = some d) (h:(execOp a.eval o).run P w = .ok (.value v) w) (ha:a = act n f) (hK:K (act n (upd f d v)) w):OW P o a w K Q:=by
  subst ha
  refine ⟨?_⟩
  unfold Oper.wp
  rw [h,Oper.upon_value,ho,act_put]
  exact hK
theorem omove {x:Operand} {v:Value} (hop:o.op = .move x) (ho:o.dst = some d) (hx:(act n f).eval x = v) (hK:K (act n (upd f d v)) w):OW P o (act n f) w K Q :=
  oval ho (by simp [execOp,hop,hx]) rfl hK
theorem oassign {x:Operand} {v:Value} (hop:o.op = .assign x) (ho:o.dst = some d) (hx:(act n f).eval x = v) (hK:K (act n (upd f d v)) w):OW P o (act n f) w K Q :=
  oval ho (by simp [execOp,hop,hx]) rfl hK
theorem opick {c x y:Operand} {b:Bool} {v:Value} (hop:o.op = .pick c x y) (ho:o.dst = some d) (hc:(act n f).eval c = .bool b) (hx:(act n f).eval (cond b x y) = v) (hK:K (act n (upd f d v)) w):OW P o (act n f) w K Q :=
  oval ho (by cases b <;> simp [execOp,hop,hc,asBool] <;> exact hx) rfl hK
theorem onot {t:TypeId} {x:Operand} {b:Bool} (hop:o.op = .unOp .not t x) (ho:o.dst = some d) (hx:(act n f).eval x = .bool b) (hK:K (act n (upd f d (.bool !b))) w):OW P o (act n f) w K Q :=
  oval ho (by simp [execOp,hop,hx,Op.unary]) rfl hK
theorem obin {op:BinOp} {t t':TypeId} {x y:Operand} {u v z:Value} (hop:o.op = .binOp op t x y t') (ho:o.dst = some d) (hx:(act n f).eval x = u) (hy:(act n f).eval y = v)
  (hr:(do eqGuard op t x y u v; binOp op t u v:Sem Value).run P w = .ok z w) (hK:K (act n (upd f d z)) w):OW P o (act n f) w K Q :=
 oval ho (by simp only [execOp,hop,hx,hy]; rw [Sem.run_bind,hr]; rfl) rfl hK
theorem oEx {t:Operand} {i:Nat} {vs:List Value} {v:Value} (hop:o.op = .extract t i) (ho:o.dst = some d) (hx:(act n f).eval t = .tuple vs.toArray) (hv:vs[i]? = some v) (hK:K (act n (upd f d v)) w):OW P o (act n f) w K Q :=
  oval ho (by simp [execOp,hop,hx,Instr.extract,hv]) rfl hK
theorem olen {c:Call} {x:Operand} {t:TypeId} {p:Option Addr} {k m:Nat} (hop:o.op = .call c) (hc:c = { callee:=.builtin .len,args:=#[x],argTypes:=#[t] }) (ho:o.dst = some d) {e:TypeId} (ht:∀ w,(underlying t).run P w = .ok (.slice e) w) (hx:(act n f).eval x = .slice p k m)
  (hK:K (act n (upd f d (.int .i64 (k:Int)))) w):OW P o (act n f) w K Q :=
 oval ho (by subst hc; simp [execOp,hop,hx,resolve,invoke,builtin,Builtin.len_,Builtin.lenOf,ht]; rfl) rfl hK
theorem obox {ty:TypeId} {x:Operand} {v:Value} (cs:List Value) (hS:Sep w0 R w) (hop:o.op = .box ty x) (ho:o.dst = some d) (hx:(act n f).eval x = v) (hcs:v.cells = cs.toArray)
  (hK:∀ g w',Sep w0 (.blk g cs ty :: R) w' → K (act n (upd f d (.pointer (some ⟨g,0,none⟩)))) w'):OW P o (act n f) w K Q:=by
 refine ⟨?_⟩
 have:=hK _ _ (hS.alloc cs ty)
 unfold Oper.wp
 simp [execOp,hop,hx,Instr.box,newVar,newRow,hcs]
 rw [Oper.upon_value,ho,act_put]
 exact this
theorem oAl {ty:TypeId} {z:Value} (cs:List Value) (hS:Sep w0 R w) (hop:o.op = .alloc ty) (ho:o.dst = some d) (hz:∀ w,(zeroValue ty).run P w = .ok z w) (hcs:z.cells = cs.toArray)
  (hK:∀ g w',Sep w0 (.blk g cs ty :: R) w' → K (act n (upd f d (.pointer (some ⟨g,0,none⟩)))) w'):OW P o (act n f) w K Q:=by
 refine ⟨?_⟩
 have:=hK _ _ (hS.alloc cs ty)
 unfold Oper.wp
 simp [execOp,hop,hz,Instr.alloc,newVar,newRow,hcs]
 rw [Oper.upon_value,ho,act_put]
 exact this
def part (cs:List Value) (off sz:Nat):List Value:=(cs.drop off).take sz
theorem blk_cell {w:World} {g:Nat} {cs:List Value} {t:TypeId} (h:w.heap[g]? = some (.cells cs.toArray t)) (i:Nat):w.cell? ⟨g,i,none⟩ = cs[i]? := by
  unfold World.cell?; simp [h]
theorem blk_frozen {w:World} {g:Nat} {cs:List Value} {t:TypeId} (h:w.heap[g]? = some (.cells cs.toArray t)) (i:Nat):w.frozen? ⟨g,i,none⟩ = false:=by
  unfold World.frozen?; simp [h]
structure Agg (P:Program) (ty:TypeId) (sz:Nat):Prop where
  isAgg:∀ w,(isAgg ty).run P w = .ok true w
  size:∀ w,(sizeOf ty).run P w = .ok sz w
structure One (P:Program) (ty:TypeId):Prop where
  isAgg:∀ w,(isAgg ty).run P w = .ok false w
  size:∀ w,(sizeOf ty).run P w = .ok 1 w
theorem run_loadAt_agg {ty:TypeId} {sz g off:Nat} {cs vs:List Value} (hA:Agg P ty sz) (hc:∀ i,i < cs.length → w.cell? ⟨g,i,none⟩ = cs[i]?) (hv:part cs off sz = vs) (hl:vs.length = sz) :
  (Instr.loadAt ty (.pointer (some ⟨g,off,none⟩))).run P w = .ok (.agg vs.toArray) w:=by
 have hl':=run_loadCells_list (P:=P) w ⟨g,off,none⟩ vs (fun j v hj => by
  rw [Addr.add_mid]
  have hjl:j < vs.length:=(List.getElem?_eq_some_iff.1 hj).1
  subst hv
  unfold part at hj hl hjl
  rw [List.getElem?_take,if_pos (by omega),List.getElem?_drop] at hj
  rw [hc _ (List.getElem?_eq_some_iff.1 hj).1,hj])
 rw [hl] at hl'
 simp [Instr.loadAt,Instr.sureAddr,loadVar,hA.isAgg,hA.size,hl']
theorem oLd {ty:TypeId} {x:Operand} {sz:Nat} {off g:Nat} {cs vs:List Value} {t:TypeId} (hA:Agg P ty sz) (hS:Sep w0 R w) (k:Nat) (hop:o.op = .load ty x) (ho:o.dst = some d)
  (hx:(act n f).eval x = .pointer (some ⟨g,off,none⟩)) (hk:R[k]? = some (.blk g cs t)) (hv:part cs off sz = vs) (hl:vs.length = sz) (hK:K (act n (upd f d (.agg vs.toArray))) w):OW P o (act n f) w K Q :=
 oval ho (by simp only [execOp,hop,hx]; rw [Sem.run_bind,run_loadAt_agg hA (fun i _ => blk_cell (hS.blkAt k hk) i) hv hl]; rfl) rfl hK
theorem run_loadAt_one {ty:TypeId} {g off:Nat} {v:Value} (hA:One P ty) (hc:w.cell? ⟨g,off,none⟩ = some v) :
  (Instr.loadAt ty (.pointer (some ⟨g,off,none⟩))).run P w = .ok v w:=by
 simp [Instr.loadAt,Instr.sureAddr,loadVar,hA.isAgg,hc]
theorem oL1 {ty:TypeId} {x:Operand} {off g:Nat} {cs:List Value} {v:Value} {t:TypeId} (hA:One P ty) (hS:Sep w0 R w) (k:Nat) (hop:o.op = .load ty x) (ho:o.dst = some d)
  (hx:(act n f).eval x = .pointer (some ⟨g,off,none⟩)) (hk:R[k]? = some (.blk g cs t)) (hv:cs[off]? = some v) (hK:K (act n (upd f d v)) w):OW P o (act n f) w K Q :=
 oval ho (by simp only [execOp,hop,hx]; rw [Sem.run_bind,run_loadAt_one hA ((blk_cell (hS.blkAt k hk) off).trans hv)]; rfl) rfl hK
theorem oLc {ty:TypeId} {x:Operand} {off g:Nat} {v:Value} (hA:One P ty) (hop:o.op = .load ty x) (ho:o.dst = some d)
  (hx:(act n f).eval x = .pointer (some ⟨g,off,none⟩)) (hc:w.cell? ⟨g,off,none⟩ = some v) (hK:K (act n (upd f d v)) w):OW P o (act n f) w K Q :=
 oval ho (by simp only [execOp,hop,hx]; rw [Sem.run_bind,run_loadAt_one hA hc]; rfl) rfl hK
theorem run_storeAt_blk {ty:TypeId} {g off:Nat} {cs vs:List Value} {v:Value} {t:TypeId} {sz:Nat} (hsz:∀ w,(sizeOf ty).run P w = .ok sz w) (hb:w.heap[g]? = some (.cells cs.toArray t)) (hcs:v.cells = vs.toArray) (hl:vs.length = sz) (hle:Nat.ble (off + sz) cs.length = true)
  (h1:vs.all (·.oneCell') = true):(Instr.storeAt ty (.pointer (some ⟨g,off,none⟩)) v).run P w = .ok () (w.setCells g off vs):=by
 have hle':off + sz ≤ cs.length:=Nat.le_of_ble_eq_true hle
 have:=run_storeCells_cells (P:=P) g off vs 0 w
  (fun j hj => by rw [blk_cell hb,List.getElem?_eq_getElem (by omega)]; rfl)
  (fun j hj => blk_frozen hb _) (fun v hv => List.all_eq_true.1 h1 v hv)
 simp only [Nat.add_zero] at this
 simp [Instr.storeAt,Instr.sureAddr,storeVar,hsz,hcs,hl,this]
theorem oSt {ty:TypeId} {x y:Operand} {off g sz:Nat} {cs:List Value} (vs cs':List Value) {v:Value} {t:TypeId} (hsz:∀ w,(sizeOf ty).run P w = .ok sz w) (hS:Sep w0 R w) (k:Nat) (hop:o.op = .store ty x y) (ho:o.dst = none)
  (hx:(act n f).eval x = .pointer (some ⟨g,off,none⟩)) (hy:(act n f).eval y = v) (hk:R[k]? = some (.blk g cs t)) (hcs:v.cells = vs.toArray) (hl:vs.length = sz) (hle:Nat.ble (off + sz) cs.length = true) (h1:vs.all (·.oneCell') = true) (hw:wr cs off vs = cs')
  (hK:∀ w',Sep w0 (R.set k (.blk g cs' t)) w' → K (act n f) w'):OW P o (act n f) w K Q:=by
 refine ⟨?_⟩
 have:=hK _ (hw ▸ hS.store k hk off vs)
 unfold Oper.wp
 simp only [execOp,hop,hx,hy]
 rw [Sem.run_bind,run_storeAt_blk hsz (hS.blkAt k hk) hcs hl hle h1,Result.andThen_ok,Sem.run_pure,Oper.upon_skip,ho]
 exact this
theorem oCl {F:FuncId} {c:Call} {xs:Array Operand} {ts:Array TypeId} {vs:Array Value} {Rp:Ending → World → Prop} (hop:o.op = .call c) (hc:c = { callee:=.value (.func F),args:=xs,argTypes:=ts }) (hF:∀ args w,(callFunc F args).run P w = .ok (.enter F args) w) (ho:o.dst = some d)
  (hC:Calls P F vs w Rp) (hx:xs.map (act n f).eval = vs) (hK:∀ e w',Rp e w' → ∃ v,e = .returned v ∧ K (act n (upd f d v)) w'):OW P o (act n f) w K Q:=by
 refine ⟨?_⟩
 subst hc
 unfold Oper.wp
 have e:(execOp (act n f).eval o).run P w = .ok (.enter F vs) w:=by
  simp only [execOp,hop,resolve,hx]
  simp [Act.eval,Deferred.ofValue,invoke,hF]
 rw [e,Oper.upon_enter]
 refine hC.mono fun e w' h => ?_
 obtain ⟨v,rfl,hk⟩:=hK e w' h
 show K ((act n f).put o.dst v) w'
 rw [ho,act_put]
 exact hk
theorem wret {fn:Func} {rs:Array ResultVar} {v:Value} {E:Ending → World → Prop} (hr:fn.results = rs) (hv:(do
  let vs ← rs.mapM fun
   | .tmp t => pure ((act n f).tmps.getD t undef)
   | .cell a t => do loadVar t (← asAddr ((act n f).tmps.getD a undef))
  pure (if h:vs.size = 1 then vs[0] else .tuple vs):Sem Value).run P w = .ok v w) (h:E (.returned v) w):bodyPost P fn E .ret (act n f) w:=by
 subst hr
 exact bodyPost_ret hv rfl h
def Tells (P:Program) (n:Nat) (f:Nat → Value) (w:World) (r:ResultVar) (v:Value):Prop :=
 ((match r with
   | .tmp t => pure ((act n f).tmps.getD t undef)
   | .cell a t => do loadVar t (← asAddr ((act n f).tmps.getD a undef))):Sem Value).run P w = .ok v w
theorem tlT {t:Nat} {v:Value} (h:Nat.blt t n = true) (hv:f t = v):Tells P n f w (.tmp t) v:=by
  unfold Tells; simp only []; rw [act_getD h,hv]; rfl
theorem tellC {t:Nat} {ty:TypeId} {g sz:Nat} {cs:List Value} {t':TypeId} (hA:Agg P ty sz) (hS:Sep w0 R w) (k:Nat) (h:Nat.blt t n = true) (hv:f t = .pointer (some ⟨g,0,none⟩)) (hk:R[k]? = some (.blk g cs t')) (hl:cs.length = sz):Tells P n f w (.cell t ty) (.agg cs.toArray):=by
  unfold Tells; simp only []
  rw [act_getD h,hv]
  have:=run_loadAt_agg (P:=P) (w:=w) (g:=g) (off:=0) (vs:=cs) hA (fun i _ => blk_cell (hS.blkAt k hk) i) (by unfold part; rw [List.drop_zero, ← hl,List.take_length]) hl
  simpa [Instr.loadAt,Instr.sureAddr,asAddr] using this
theorem wr1 {fn:Func} {r:ResultVar} {v:Value} {E:Ending → World → Prop} (hr:fn.results = #[r]) (h1:Tells P n f w r v) (h:E (.returned v) w):bodyPost P fn E .ret (act n f) w:=by
  refine wret hr ?_ h
  unfold Tells at h1
  simp at h1
  simp [h1]
theorem wret2 {fn:Func} {r s:ResultVar} {u v:Value} {E:Ending → World → Prop} (hr:fn.results = #[r,s]) (h1:Tells P n f w r u) (h2:Tells P n f w s v) (h:E (.returned (.tuple #[u,v])) w):bodyPost P fn E .ret (act n f) w:=by
  refine wret hr ?_ h
  unfold Tells at h1 h2
  simp at h1 h2
  simp [h1,h2]
end
open Go.RowKit
structure New (w:World) (r:List Res) (w':World):Prop where
  below:Below w.heap.size w w'
  holds:∀ x ∈ r,x.holds w'
  high:∀ x ∈ r, ∀ g,x.foot g → w.heap.size ≤ g
  apart:r.Pairwise Apart
theorem New.nil {w w':World} (hb:Below w.heap.size w w'):New w [] w':=⟨hb,(fun x h => by cases h),(fun x h => by cases h),List.Pairwise.nil⟩
theorem New.same (w:World):New w [] w:=New.nil (Below.refl _ _)
theorem New.one {w w':World} (hb:Below w.heap.size w w') {x:Res} (hx:x.holds w') (hf:∀ g,x.foot g → w.heap.size ≤ g):New w [x] w' :=
  ⟨hb,(fun y hy => by rw [List.mem_singleton.1 hy]; exact hx),(fun y hy g hg => by rw [List.mem_singleton.1 hy] at hg; exact hf g hg),List.pairwise_singleton _ _⟩
theorem New.row {w w':World} (hb:Below w.heap.size w w') {p:Option Addr} {n c:Nat} {xs:List Nat} (hf:Fr w.heap.size w' p n c xs):New w [.row p n c xs] w' :=
  New.one hb hf.at0 (fun g hg => by have hg':p = some ⟨g,0,none⟩:=hg; subst hg'; exact hf.block.1)
theorem New.blk (w:World) (cs:List Value) (t:TypeId):New w [.blk w.heap.size cs t] (w.alloc (.cells cs.toArray t)) :=
  New.one ((Below.refl _ _).alloc (Nat.le_refl _) _) (heap_alloc_new w _) (fun g hg => by have hg':g = w.heap.size:=hg; omega)
theorem Sep.news {w0:World} {R r:List Res} {w w':World} (h:Sep w0 R w) (hn:New w r w'):Sep w0 (r ++ R) w':=by
 have h':=h.grow hn.below
 refine ⟨h'.below,fun s hs => ?_,fun s hs ha g hg => ?_,List.pairwise_append.2 ⟨hn.apart,h.apart,fun x hx s hs _ g h1 h2 => ?_⟩⟩
 ·rcases List.mem_append.1 hs with hs | hs
  ·exact hn.holds s hs
  exact h'.holds s hs
 ·rcases List.mem_append.1 hs with hs | hs
  ·exact Nat.le_trans h.below.size (hn.high s hs g hg)
  exact h.low s hs ha g hg
 have h3:=hn.high x hx g h1
 have h4:=s.lt w (h.holds s hs) g h2
 omega
theorem New.rows2 {w w':World} (hb:Below w.heap.size w w') {p q:Option Addr} {n c m d:Nat} {xs ys:List Nat} (hf:Fr w.heap.size w' p n c xs) (hg:Fr w.heap.size w' q m d ys):New w [.row p n c xs,.row q m d ys] w':=by
 have h1:=New.row hb hf
 have h2:=New.row hb hg
 refine ⟨hb,fun x hx => ?_,fun x hx => ?_,List.Pairwise.cons (fun x hx he => ?_) (List.pairwise_singleton _ _)⟩
 ·rcases List.mem_cons.1 hx with rfl | hx
  ·exact h1.holds _ List.mem_cons_self
  exact h2.holds _ hx
 ·rcases List.mem_cons.1 hx with rfl | hx
  ·exact h1.high _ List.mem_cons_self
  exact h2.high _ hx
 rw [List.mem_singleton.1 hx] at he; cases he
def layf (vs:Nat → Value):List Nat → Nat → (Nat → Value) → Nat → Value
  | [],_,f => f
  | d :: ds,k,f => layf vs ds (k + 1) (upd f d (vs k))
def needs (o:Oper):List Nat:=((o.after.toList.filter fun e => Region.binds .any e).map (·.on)).eraseDups
def stageB (ops:Array Oper) (ds:List Nat) (nd sr:List (List Nat)) (pu:List Nat) (m:Nat):Bool :=
 ds.length == m && Nat.ble m ops.size && decide ds.Nodup &&
 ((List.range m).all fun i => match ops[i]? with
  | some o => o.dst == ds[i]? && ((nd.getD i []).all fun k => (needs o).contains k || (needs o).any fun j => (nd.getD j []).contains k) && decide (nd.getD i []).Nodup && ((sr.getD i []).all fun j => (nd.getD i []).contains j && Nat.blt j i) && ((nd.getD i []).all fun j => Nat.blt j i) && (needs o).all fun j => Nat.blt j i
  | none => false) &&
 ((List.range ops.size).all fun j => Nat.blt j m || match ops[j]? with
  | some o => ((needs o).any fun k => Nat.ble m k) || (List.range m).all fun i => pu.contains i || (needs o).contains i || (needs o).any fun j => (nd.getD j []).contains i
  | none => true) &&
 (pu.all fun i => match ops[i]? with
  | some o => (List.range ops.size).all fun j => j == i || (Nat.blt j m && !pu.contains j) || match ops[j]? with
   | some oj => (needs oj).contains i || o.apart ops oj
   | none => true
  | none => true)
section
variable {P:Program} {ops:Array Oper} {n:Nat} {w0:World} {Q:Exit → Act → World → Prop}
theorem layf_other {vs:Nat → Value}:∀ {ds:List Nat} {k:Nat} {f:Nat → Value} {d:Nat},d ∉ ds → layf vs ds k f d = f d
 | [],_,_,_,_ => rfl
 | e :: ds,k,f,d,h => by
  rw [layf,layf_other (fun h' => h (List.mem_cons_of_mem _ h'))]
  exact upd_ne _ _ (fun h' => h (by subst h'; exact List.mem_cons_self))
theorem layf_at {vs:Nat → Value}:∀ {ds:List Nat} {k:Nat} {f:Nat → Value} {i d:Nat},ds.Nodup → ds[i]? = some d → layf vs ds k f d = vs (k + i)
 | [],_,_,_,_,_,h => by simp at h
 | e :: ds,k,f,0,d,hn,h => by
  simp at h; subst h
  rw [layf,layf_other (List.nodup_cons.1 hn).1,upd_same]; rfl
 | e :: ds,k,f,i + 1,d,hn,h => by
  simp at h
  rw [layf,layf_at (List.nodup_cons.1 hn).2 h]
  congr 1; omega
theorem layf_ext {vs:Nat → Value} {ds:List Nat} {f f':Nat → Value} (hn:ds.Nodup) (ho:∀ d,d ∉ ds → f' d = f d) (hi:∀ i d,ds[i]? = some d → f' d = vs i):layf vs ds 0 f = f':=by
 funext d
 by_cases h:d ∈ ds
 ·obtain ⟨i,hid⟩:=List.mem_iff_getElem?.1 h
  rw [layf_at hn hid,hi i d hid,Nat.zero_add]
 rw [layf_other h,ho d h]
abbrev Tell:=Value → List Res → Prop
def vat:Value → List Nat → Value
  | v,[] => v
  | .tuple xs,i :: is => vat (xs.getD i undef) is
  | .agg xs,i :: is => vat (xs.getD i undef) is
  | _,_ :: _ => undef
def Is (V:Value):Tell:=fun v r => v = V ∧ r = []
theorem isI {V:Value}:Is V V []:=⟨rfl,rfl⟩
def Ptr (cs:List Value) (t:TypeId):Tell:=fun v r => ∃ g,v = .pointer (some ⟨g,0,none⟩) ∧ r = [.blk g cs t]
theorem ptrI {g:Nat} {cs:List Value} {t:TypeId}:Ptr cs t (.pointer (some ⟨g,0,none⟩)) [.blk g cs t]:=⟨g,rfl,rfl⟩
def Nt (xs:List Nat):Tell:=fun v r => ∃ p n c,v = .slice p n c ∧ r = [.row p n c xs]
def pool (L:Nat → Bool) (ρ : Nat → List Res):Nat → List Res
  | 0 => []
  | k + 1 => (if L k then ρ k else []) ++ pool L ρ k
theorem pool_upd (L:Nat → Bool) (ρ : Nat → List Res) (i:Nat) (r:List Res) (hi:L i = false):∀ m,i < m → (pool (fun j => L j || j == i) (fun j => if j = i then r else ρ j) m).Perm (r ++ pool L ρ m)
 | 0,h => by omega
 | m + 1,h => by
  have hother:∀ k,k ≤ i → pool (fun j => L j || j == i) (fun j => if j = i then r else ρ j) k = pool L ρ k:=by
   intro k
   induction k with
   | zero => intro _; rfl
   | succ k ih =>
    intro hk
    have hne:(k == i) = false:=by simp; omega
    simp only [pool,hne,Bool.or_false]
    rw [ih (by omega),if_neg (by omega:¬ k = i)]
  rcases Nat.lt_or_ge i m with h' | h'
  ·have ih:=pool_upd L ρ i r hi m h'
   have hne:(m == i) = false:=by simp; omega
   simp only [pool,hne,Bool.or_false]
   rw [if_neg (by omega:¬ m = i)]
   refine (List.Perm.append_left _ ih).trans ?_
   rw [← List.append_assoc, ← List.append_assoc]
   exact List.Perm.append_right _ List.perm_append_comm
  obtain rfl:m = i:=by omega
  simp only [pool]
  rw [hother m (Nat.le_refl _),hi]
  simp
theorem pool_all (ρ : Nat → List Res) (L:Nat → Bool):∀ m,(∀ i,i < m → L i = true) → pool L ρ m = pool (fun _ => true) ρ m
 | 0,_ => rfl
 | m + 1,h => by
  simp only [pool]
  rw [pool_all ρ L m (fun i hi => h i (by omega))]
  simp only [h m (by omega)]
theorem pool_some {L:Nat → Bool} {ρ : Nat → List Res}:∀ {m:Nat} (js:List Nat),js.Nodup → (∀ j ∈ js,j < m ∧ L j = true) → ∃ S,(js.flatMap ρ ++ S).Perm (pool L ρ m)
 | m,[],_,_ => ⟨pool L ρ m,List.Perm.refl _⟩
 | m,j :: js,hn,h => by
  have hj0:=h j List.mem_cons_self
  obtain ⟨hj,hLj⟩:=h j List.mem_cons_self
  have hn':=List.nodup_cons.1 hn
  -- take j out
  have key:(pool L ρ m).Perm (ρ j ++ pool (fun i => L i && !(i == j)) ρ m):=by
   have h1:=pool_upd (fun i => L i && !(i == j)) ρ j (ρ j) (by show (L j && !(j == j)) = false; simp) m hj
   have e1:(fun i => (L i && !(i == j)) || i == j) = L:=by
    funext i
    by_cases e:i = j
    ·subst e; simp [hLj]
    have h9:(i == j) = false:=by simpa using e
    show ((L i && !(i == j)) || i == j) = L i
    rw [h9]; simp
   have e2:(fun i => if i = j then ρ j else ρ i) = ρ := by
    funext i
    by_cases e:i = j
    ·subst e; exact if_pos rfl
    exact if_neg e
   rw [e1,e2] at h1
   exact h1
  obtain ⟨S,hS⟩:=pool_some (m:=m) (L:=fun i => L i && !(i == j)) (ρ := ρ) js hn'.2 (fun i hi => ⟨(h i (List.mem_cons_of_mem _ hi)).1,by
   have h9:i ≠ j:=fun e => hn'.1 (e ▸ hi)
   show (L i && !(i == j)) = true
   rw [(h i (List.mem_cons_of_mem _ hi)).2]
   simp [h9]⟩)
  refine ⟨S,?_⟩
  rw [List.flatMap_cons,List.append_assoc]
  exact (List.Perm.append_left _ hS).trans key.symm
def Up (listed:Array Bool):Nat → Bool:=fun i => listed.getD i false
theorem up_set {listed:Array Bool} {i:Nat} (hi:i < listed.size):Up (listed.setIfInBounds i true) = fun j => Up listed j || j == i:=by
 funext j
 unfold Up
 by_cases e:i = j
 ·subst e; simp [hi]
 have:(j == i) = false:=by simp; exact fun h => e h.symm
 simp [this,Array.getElem?_setIfInBounds_ne e]
theorem getD_same {l:Array Bool} {i:Nat} (h:i < l.size):l.getD i true = l.getD i false:=by simp [Array.getD,h]
theorem count_less {L:Nat → Bool} {i:Nat} (hu:L i = false):∀ (l:List Nat),l.Nodup → i ∈ l → (l.countP fun j => !L j) = (l.countP fun j => !(L j || j == i)) + 1
 | [],_,h => by cases h
 | x :: l,hn,h => by
  have hn':=List.nodup_cons.1 hn
  rw [List.countP_cons,List.countP_cons]
  by_cases hx:x = i
  ·subst hx
   have e:l.countP (fun j => !L j) = l.countP (fun j => !(L j || j == x)):=List.countP_congr fun j hj => by
    have h9:(j == x) = false:=by
     simp; intro e; subst e; exact hn'.1 hj
    rw [h9,Bool.or_false]
   rw [e,hu]; simp
  have hmem:i ∈ l:=by
   rcases List.mem_cons.1 h with h | h
   ·exact absurd h.symm hx
   exact h
  have h9:(x == i) = false:=by simpa using hx
  rw [count_less hu l hn'.2 hmem,h9,Bool.or_false]
  omega
theorem mem_needs {o:Oper} {j:Nat}:j ∈ needs o ↔ ∃ e ∈ o.after,Region.binds .any e = true ∧ e.on = j:=by
  unfold needs
  rw [List.mem_eraseDups]
  simp [and_assoc]
def HeldS (Bl:List (Nat × List Value × TypeId)) (w:World):Prop := ∀ p ∈ Bl,w.heap[p.1]? = some (.cells p.2.1.toArray p.2.2)
theorem hNi {w:World}:HeldS [] w:=fun p hp => by cases hp
theorem HeldS.grow {Bl:List (Nat × List Value × TypeId)} {w w':World} (h:HeldS Bl w) (hb:Below w.heap.size w w'):HeldS Bl w':=fun p hp => by
  have h1:=h p hp
  rw [hb.block _ (Array.getElem?_eq_some_iff.1 h1).1]; exact h1
theorem HeldS.at {Bl:List (Nat × List Value × TypeId)} {w:World} (h:HeldS Bl w) (k:Nat) {g:Nat} {cs:List Value} {t:TypeId} (hk:Bl[k]? = some (g,cs,t)):w.heap[g]? = some (.cells cs.toArray t):=h _ (List.mem_of_getElem? hk)
structure Late (P:Program) (ops:Array Oper) (Q:Exit → Act → World → Prop) (Bl:List (Nat × List Value × TypeId)) (j:Nat) (a:Act) (w:World):Prop where
  out:∀ fuel listed,ops.size ≤ fuel + j → listed.size = ops.size → (∀ i,i < ops.size → Up listed i = Nat.blt i j) → wpAnyH P .any ops Q (HeldS Bl) fuel listed a w
def lateB (ops:Array Oper) (j:Nat):Bool :=
  (match ops[j]? with | some o => o.guard.isNone && (needs o).all (fun i => Nat.blt i j) | none => false) &&
  (List.range ops.size).all fun k => Nat.ble k j || match ops[k]? with | some o => (needs o).any (fun i => Nat.ble j i) | none => true
theorem wLt {l:List Oper} {Bl:List (Nat × List Value × TypeId)} {a:Act} {w:World} (j:Nat) {o:Oper} (ho:l.toArray[j]? = some o) (hB:lateB l.toArray j = true) (h:OW P o a w (fun a' w' => HeldS Bl w' ∧ Late P l.toArray Q Bl (j + 1) a' w') Q):Late P l.toArray Q Bl j a w:=by
 refine ⟨?_⟩
 intro fuel listed hfuel hsz hup
 have hj:j < l.toArray.size:=(Array.getElem?_eq_some_iff.1 ho).1
 unfold lateB at hB
 rw [Bool.and_eq_true,ho] at hB
 obtain ⟨h1,h2⟩:=hB
 simp only [Bool.and_eq_true] at h1
 have hblt:∀ i k,Nat.blt i k = true ↔ i < k:=fun i k => by rw [Nat.blt_eq]
 have huj:Up listed j = false:=by
  rw [hup j hj]
  cases e:Nat.blt j j with
  | false => rfl
  | true => rw [hblt] at e; omega
 have hready:Region.ready .any l.toArray listed = [j]:=by
  have hmem:∀ i,i ∈ Region.ready .any l.toArray listed → i = j:=fun i hi => by
   obtain ⟨hu,o2,ho2,hall⟩:=mem_ready.1 hi
   have hil:i < l.toArray.size:=(Array.getElem?_eq_some_iff.1 ho2).1
   have hu':Up listed i = false:=(getD_same (by omega)).symm.trans hu
   rw [hup i hil] at hu'
   have hji:j ≤ i:=by
    rcases Nat.lt_or_ge i j with h | h
    ·rw [(hblt i j).2 h] at hu'; cases hu'
    exact h
   have h3:=List.all_eq_true.1 h2 i (List.mem_range.2 hil)
   rw [ho2] at h3
   rcases Bool.or_eq_true_iff.1 h3 with h3 | h3
   ·have:=Nat.le_of_ble_eq_true h3; omega
   obtain ⟨k,hk,hjk⟩:=List.any_eq_true.1 h3
   have hjk':=Nat.le_of_ble_eq_true hjk
   obtain ⟨e,he,hb,rfl⟩:=mem_needs.1 hk
   have hl:Up listed e.on = true:=hall e he hb
   have hel:e.on < l.toArray.size:=by
    rcases Nat.lt_or_ge e.on listed.size with h | h
    ·omega
    unfold Up at hl; simp [Array.getD,Nat.not_lt.2 h] at hl
   rw [hup e.on hel,hblt] at hl
   omega
  have hjm:j ∈ Region.ready .any l.toArray listed:=mem_ready.2 ⟨(getD_same (by omega)).trans huj,o,ho,fun e he hb => by
   have h4:=List.all_eq_true.1 h1.2 e.on (mem_needs.2 ⟨e,he,hb,rfl⟩)
   have h5:=(hblt _ _).1 h4
   have:Up listed e.on = true:=by rw [hup e.on (by omega)]; exact h4
   exact this⟩
  have hn:(Region.ready .any l.toArray listed).Nodup:=(List.nodup_range).sublist List.filter_sublist
  revert hmem hjm hn
  generalize Region.ready .any l.toArray listed = L
  intro hmem hjm hn
  match L,hmem,hjm,hn with
  | [],_,hjm,_ => cases hjm
  | [x],hmem,_,_ => rw [hmem x List.mem_cons_self]
  | x :: y :: L,hmem,_,hn =>
   have e1:=hmem x List.mem_cons_self
   have e2:=hmem y (List.mem_cons_of_mem _ List.mem_cons_self)
   have:=(List.nodup_cons.1 hn).1
   rw [e1,e2] at this
   exact absurd List.mem_cons_self this
 obtain ⟨fuel,rfl⟩:∃ k,fuel = k + 1:=⟨fuel - 1,by omega⟩
 refine ⟨fun hnil => (by rw [hready] at hnil; cases hnil),fun i hi => ?_⟩
 rw [hready] at hi
 obtain rfl:=List.mem_singleton.1 hi
 have hg:o.guard = none:=by simpa using h1.1
 unfold wpOp
 rw [ho]
 have hw:Region.wanted o (yielded l.toArray a.tmps) = true:=by simp [Region.wanted,hg]
 simp only [hw,if_true]
 refine .inl (Oper.wp_mono (fun a' w' h' => ⟨h'.1,?_⟩) h.out)
 refine h'.2.out fuel _ (by omega) (by simp [hsz]) (fun k hk => ?_)
 rw [up_set (by omega)]
 show (Up listed k || k == i) = Nat.blt k (i + 1)
 rw [hup k hk,Bool.eq_iff_iff,Bool.or_eq_true,hblt,hblt]
 simp
 omega
theorem wdone {l:List Oper} {Bl:List (Nat × List Value × TypeId)} {a:Act} {w:World} {j:Nat} (hj:l.toArray.size = j) (h:Q .normal a w):Late P l.toArray Q Bl j a w:=by
 refine ⟨?_⟩
 intro fuel listed _ hsz hup
 have hnil:Region.ready .any l.toArray listed = []:=by
  rcases hr:Region.ready .any l.toArray listed with _ | ⟨i,L⟩
  ·rfl
  exfalso
  have hi:i ∈ Region.ready .any l.toArray listed:=by rw [hr]; exact List.mem_cons_self
  obtain ⟨hu,o2,ho2,_⟩:=mem_ready.1 hi
  have hil:i < l.toArray.size:=(Array.getElem?_eq_some_iff.1 ho2).1
  have hu':Up listed i = false:=(getD_same (by omega)).symm.trans hu
  rw [hup i hil,show Nat.blt i j = true by rw [Nat.blt_eq]; omega] at hu'
  cases hu'
 cases fuel with
 | zero => exact ⟨hnil,h⟩
 | succ k => exact ⟨fun _ => h,by rw [hnil]; intro i hi; cases hi⟩
def StepOk (P:Program) (ops:Array Oper) (n:Nat) (f:Nat → Value) (ds:List Nat) (nd sr:List (List Nat)) (Bl:List (Nat × List Value × TypeId)) (T:Nat → List Value → Tell) (w0:World) (R0:List Res) (i:Nat) (o:Oper):Prop :=
 ∀ (Q:Exit → Act → World → Prop) (f':Nat → Value) (w':World) (ρ : Nat → List Res) (S:List Res),(∀ d,ds.contains d = false → f' d = f d) → (∀ j d,(nd.getD i []).contains j = true → ds[j]? = some d → T j ((sr.getD j []).map fun l => f' (ds.getD l 0)) (f' d) (ρ j)) → Sep w0 (R0 ++ ((nd.getD i []).flatMap ρ ++ S)) w' → HeldS Bl w' →
  (Region.wanted o (yielded ops (act n f').tmps) = true ∧ OW P o (act n f') w' (fun a'' w'' => ∃ v r,a'' = act n (upd f' (ds.getD i 0) v) ∧ T i ((sr.getD i []).map fun l => f' (ds.getD l 0)) v r ∧ New w' r w'') Q) ∨
  (Region.wanted o (yielded ops (act n f').tmps) = false ∧ T i ((sr.getD i []).map fun l => f' (ds.getD l 0)) undef [])
def PureOk (P:Program) (ops:Array Oper) (n:Nat) (f:Nat → Value) (ds:List Nat) (nd sr:List (List Nat)) (Bl:List (Nat × List Value × TypeId)) (T:Nat → List Value → Tell) (i:Nat) (o:Oper):Prop :=
 ∀ (f':Nat → Value) (ρ : Nat → List Res),(∀ d,ds.contains d = false → f' d = f d) → (∀ j d,(nd.getD i []).contains j = true → ds[j]? = some d → T j ((sr.getD j []).map fun l => f' (ds.getD l 0)) (f' d) (ρ j)) →
  ∃ v,YieldsIf P ops (HeldS Bl) o v (act n f') ∧ T i ((sr.getD i []).map fun l => f' (ds.getD l 0)) v []
theorem wstage_go {f:Nat → Value} {R0:List Res} {m:Nat} {ds:List Nat} {nd sr:List (List Nat)} {pu:List Nat} {Bl:List (Nat × List Value × TypeId)} {T:Nat → List Value → Tell} (hsel:Region.noSelect ops = true) (hQ:∀ (d:Option Tmp) v c a w,Q (.panic c) (a.put d v) w → Q (.panic c) a w) (hpure:∀ i o,pu.contains i = true → i < m → ops[i]? = some o → PureOk P ops n f ds nd sr Bl T i o) (hst:stageB ops ds nd sr pu m = true)
  (hstep:∀ i o,i < m → ops[i]? = some o → StepOk P ops n f ds nd sr Bl T w0 R0 i o)
  (hend:∀ (vs:Nat → Value) (ρ : Nat → List Res) (w':World) (f':Nat → Value),f' = layf vs ds 0 f → (∀ i,i < m → T i ((sr.getD i []).map fun l => vs l) (vs i) (ρ i)) → Sep w0 (pool (fun _ => true) ρ m ++ R0) w' → Late P ops Q Bl m (act n f') w') :
  ∀ (todo fuel:Nat) (listed:Array Bool) (f':Nat → Value) (w':World) (ρ : Nat → List Res),listed.size = ops.size → ((List.range m).countP fun i => !Up listed i) = todo → ops.size + todo ≤ fuel + m → (∀ i,m ≤ i → Up listed i = false) →
   (∀ i,Up listed i = true → ∀ o,ops[i]? = some o → ∀ j ∈ needs o,Up listed j = true) → (∀ d,ds.contains d = false → f' d = f d) → (∀ i d,i < m → Up listed i = true → ds[i]? = some d → T i ((sr.getD i []).map fun l => f' (ds.getD l 0)) (f' d) (ρ i)) → Sep w0 (pool (Up listed) ρ m ++ R0) w' → HeldS Bl w' →
   wpAnyH P .any ops Q (HeldS Bl) fuel listed (act n f') w':=by
 have h6:∀ i ∈ pu, ∀ o,ops[i]? = some o → ∀ j oj,ops[j]? = some oj → j ≠ i → (m ≤ j ∨ j ∈ pu) → i ∈ needs oj ∨ o.apart ops oj = true:=by
  unfold stageB at hst
  simp only [Bool.and_eq_true] at hst
  intro i hi o ho j oj hoj hji hj
  have h:=List.all_eq_true.1 hst.2 i hi
  rw [ho] at h
  have h':=List.all_eq_true.1 h j (List.mem_range.2 (Array.getElem?_eq_some_iff.1 hoj).1)
  rw [hoj] at h'
  simp only [Bool.or_eq_true,Bool.and_eq_true] at h'
  rcases h' with (h' | h') | h'
  ·exact absurd (by simpa using h') hji
  ·exfalso
   rw [Nat.blt_eq] at h'
   rcases hj with hj | hj
   ·omega
   have:=h'.2; simp at this; exact this hj
  exact h'.imp (fun h => by simpa using h) id
 obtain ⟨⟨⟨⟨h1,h2⟩,h3⟩,h4⟩,h5⟩:(((ds.length = m ∧ m ≤ ops.size) ∧ ds.Nodup) ∧ (∀ i,i < m → ∃ o,ops[i]? = some o ∧ o.dst = ds[i]? ∧ (∀ k ∈ nd.getD i [],k ∈ needs o ∨ ∃ j ∈ needs o,k ∈ nd.getD j []) ∧ (nd.getD i []).Nodup ∧ (∀ j ∈ sr.getD i [],j ∈ nd.getD i [] ∧ j < i) ∧ (∀ j ∈ nd.getD i [],j < i) ∧ ∀ j ∈ needs o,j < i)) ∧ (∀ j,m ≤ j → ∀ o,ops[j]? = some o → (∃ k ∈ needs o,m ≤ k) ∨ ∀ i,i < m → pu.contains i = true ∨ i ∈ needs o ∨ ∃ j ∈ needs o,i ∈ nd.getD j []):=by
  unfold stageB at hst
  simp only [Bool.and_eq_true] at hst
  obtain ⟨⟨⟨⟨⟨h1,h2⟩,h3⟩,h4⟩,h5⟩,_⟩:=hst
  refine ⟨⟨⟨⟨by simpa using h1,Nat.le_of_ble_eq_true h2⟩,of_decide_eq_true h3⟩,fun i hi => ?_⟩,fun j hj o ho => ?_⟩
  ·have h:=List.all_eq_true.1 h4 i (List.mem_range.2 hi)
   cases ho:ops[i]? with
   | none => rw [ho] at h; cases h
   | some o =>
    rw [ho] at h
    simp only [Bool.and_eq_true] at h
    obtain ⟨⟨⟨⟨⟨a1,a2⟩,a3⟩,a4⟩,a5⟩,a6⟩:=h
    refine ⟨o,rfl,by simpa using a1,fun j hj => by simpa using List.all_eq_true.1 a2 j hj,of_decide_eq_true a3,fun j hj => ?_,fun j hj => ?_,fun j hj => ?_⟩
    ·have:=List.all_eq_true.1 a4 j hj
     rw [Bool.and_eq_true,Nat.blt_eq] at this
     exact ⟨by simpa using this.1,this.2⟩
    ·have:=List.all_eq_true.1 a5 j hj
     rw [Nat.blt_eq] at this
     exact this
    have:=List.all_eq_true.1 a6 j hj
    rw [Nat.blt_eq] at this
    exact this
  have h:=List.all_eq_true.1 h5 j (List.mem_range.2 (Array.getElem?_eq_some_iff.1 ho).1)
  have hb:Nat.blt j m = false:=by
   cases e:Nat.blt j m with
   | false => rfl
   | true => rw [Nat.blt_eq] at e; omega
  rw [hb,Bool.false_or,ho] at h
  rcases Bool.or_eq_true_iff.1 h with h | h
  ·obtain ⟨k,hk,hle⟩:=List.any_eq_true.1 h
   exact .inl ⟨k,hk,Nat.le_of_ble_eq_true hle⟩
  refine .inr fun i hi => ?_
  have h9:=List.all_eq_true.1 h i (List.mem_range.2 hi)
  simp only [Bool.or_eq_true] at h9
  rcases h9 with (h9 | h9) | h9
  ·exact .inl h9
  ·exact .inr (.inl (by simpa using h9))
  obtain ⟨j,hj,h10⟩:=List.any_eq_true.1 h9
  exact .inr (.inr ⟨j,hj,by simpa using h10⟩)
 have anc:∀ (L:Nat → Bool),(∀ i,L i = true → ∀ o,ops[i]? = some o → ∀ j ∈ needs o,L j = true) → ∀ i,i < m → ∀ o,ops[i]? = some o → (∀ j ∈ needs o,L j = true) → ∀ k ∈ nd.getD i [],L k = true:=by
  intro L hc i
  induction i using Nat.strongRecOn with
  | _ i ih =>
   intro hi o ho hn k hk
   obtain ⟨o',ho',_,hnd0,_,_,_,hlt⟩:=h4 i hi
   obtain rfl:o' = o:=by rw [ho] at ho'; exact (Option.some.inj ho').symm
   rcases hnd0 k hk with h | ⟨j,hj,hkj⟩
   ·exact hn k h
   have hjm:=hlt j hj
   obtain ⟨oj,hoj,_⟩:=h4 j (by omega)
   exact ih j hjm (by omega) oj hoj (hc j (hn j hj) oj hoj) k hkj
 intro todo
 induction todo with
 | zero =>
  intro fuel listed f' w' ρ hsz htodo hfuel hlate hclosed hother htold hsep hBl
  have hall:∀ i,i < m → Up listed i = true:=fun i hi => by
   have:=(List.countP_eq_zero.1 htodo) i (List.mem_range.2 hi)
   simpa using this
  refine hend (fun i => f' (ds.getD i 0)) ρ w' f' (layf_ext h3 (fun d hd => hother d (by simpa using hd)) (fun i d hid => by simp [List.getD,hid])).symm (fun i hi => ?_) (by rw [pool_all ρ _ m hall] at hsep; exact hsep) |>.out fuel listed (by omega) hsz (fun i _ => ?_)
  ·obtain ⟨d,hd⟩:∃ d,ds[i]? = some d:=⟨_,List.getElem?_eq_getElem (by omega)⟩
   have:=htold i d hi (hall i hi) hd
   simpa [List.getD,hd] using this
  rcases Nat.lt_or_ge i m with hi | hi
  ·rw [hall i hi]; exact ((Nat.blt_eq).mpr hi).symm
  rw [hlate i hi]
  cases e:Nat.blt i m with
  | false => rfl
  | true => rw [Nat.blt_eq] at e; omega
 | succ k ih =>
  intro fuel listed f' w' ρ hsz htodo hfuel hlate hclosed hother htold hsep hBl
  obtain ⟨fuel,rfl⟩:∃ k,fuel = k + 1:=⟨fuel - 1,by omega⟩
  have hex:∃ i,i < m ∧ Up listed i = false:=by
   rcases Classical.em (∃ i,i < m ∧ Up listed i = false) with h | h
   ·exact h
   exfalso
   have:((List.range m).countP fun i => !Up listed i) = 0:=List.countP_eq_zero.2 fun i hi => by
    cases e:Up listed i with
    | true => simp
    | false => exact absurd ⟨i,List.mem_range.1 hi,e⟩ h
   omega
  have hready:∀ i,i ∈ Region.ready .any ops listed → Up listed i = false ∧ ∃ o,ops[i]? = some o ∧ ∀ j ∈ needs o,Up listed j = true:=fun i hi => by
   obtain ⟨hu,o,ho,hall⟩:=mem_ready.1 hi
   have hlt:i < listed.size:=by have:=(Array.getElem?_eq_some_iff.1 ho).1; omega
   exact ⟨(getD_same hlt).symm.trans hu,o,ho,fun j hj => by obtain ⟨e,he,hb,rfl⟩:=mem_needs.1 hj; exact hall e he hb⟩
  have core:∀ i o,ops[i]? = some o → i < m → Up listed i = false → (∀ j ∈ needs o,Up listed j = true) →
    o.dst = ds[i]? ∧ ds[i]? = some (ds.getD i 0) ∧ (∃ S,Sep w0 (R0 ++ ((nd.getD i []).flatMap ρ ++ S)) w') ∧ (∀ j d,(nd.getD i []).contains j = true → ds[j]? = some d → T j ((sr.getD j []).map fun l => f' (ds.getD l 0)) (f' d) (ρ j)) ∧
    ∀ (v:Value) (r:List Res) (w'':World),T i ((sr.getD i []).map fun l => f' (ds.getD l 0)) v r → New w' r w'' → HeldS Bl w'' ∧ wpAnyH P .any ops Q (HeldS Bl) fuel (listed.setIfInBounds i true) (act n (upd f' (ds.getD i 0) v)) w'':=by
   intro i o ho him hu hneed
   obtain ⟨o',ho',hdst,hnd0,hnd,hsr,hndlt,hlt⟩:=h4 i him
   obtain rfl:o' = o:=by rw [ho] at ho'; exact (Option.some.inj ho').symm
   have hil:i < ds.length:=by omega
   have hdi:ds[i]? = some (ds.getD i 0):=by simp [List.getD,hil]
   have hanc:∀ j ∈ nd.getD i [],Up listed j = true:=anc (Up listed) hclosed i him o' ho hneed
   obtain ⟨S,hS⟩:=pool_some (L:=Up listed) (ρ := ρ) (m:=m) (nd.getD i []) hnd (fun j hj => ⟨Nat.lt_trans (hndlt j hj) him,hanc j hj⟩)
   have hsep':Sep w0 (R0 ++ ((nd.getD i []).flatMap ρ ++ S)) w':=hsep.perm ((List.Perm.append_right R0 hS.symm).trans List.perm_append_comm)
   have hmemc:∀ d,d ∉ ds ↔ ds.contains d = false:=fun d => by simp
   refine ⟨hdst,hdi,⟨S,hsep'⟩,fun j d hj hd => have hj':j ∈ nd.getD i []:=(by simpa using hj); htold j d (Nat.lt_trans (hndlt j hj') him) (hanc j hj') hd,?_⟩
   -- behind the step
   show ∀ (v:Value) (r:List Res) (w'':World),T i ((sr.getD i []).map fun l => f' (ds.getD l 0)) v r → New w' r w'' → HeldS Bl w'' ∧ wpAnyH P .any ops Q (HeldS Bl) fuel (listed.setIfInBounds i true) (act n (upd f' (ds.getD i 0) v)) w''
   intro v r w'' hT hN
   refine ⟨hBl.grow hN.below,?_⟩
   have his:i < listed.size:=by have:=(Array.getElem?_eq_some_iff.1 ho).1; omega
   have hup:=up_set (listed:=listed) his
   refine ih fuel (listed.setIfInBounds i true) (upd f' (ds.getD i 0) v) w'' (fun j => if j = i then r else ρ j) (by simp [hsz]) ?_ (by omega) ?_ ?_ ?_ ?_ ?_ (hBl.grow hN.below)
   ·rw [hup]
    have e:=count_less (L:=Up listed) (i:=i) hu (List.range m) List.nodup_range (List.mem_range.2 him)
    show ((List.range m).countP fun j => !(Up listed j || j == i)) = k
    omega
   ·intro j hj
    rw [hup]
    have:(j == i) = false:=by simp; omega
    simp [hlate j hj,this]
   ·intro j hj o2 ho2 l hl
    rw [hup] at hj ⊢
    simp only [Bool.or_eq_true] at hj ⊢
    rcases hj with hj | hj
    ·exact .inl (hclosed j hj o2 ho2 l hl)
    have:j = i:=by simpa using hj
    subst this
    rw [ho] at ho2
    obtain rfl:=Option.some.inj ho2
    exact .inl (hneed l hl)
   ·intro d hd
    have hne:d ≠ ds.getD i 0:=fun e => by
     have:ds.getD i 0 ∈ ds:=List.mem_of_getElem? hdi
     rw [← e] at this
     exact (hmemc d).2 hd this
    rw [upd_ne _ _ hne]; exact hother d hd
   ·intro j d hj hup' hjd
    have hsrc:∀ j,(∀ l ∈ sr.getD j [],l < m ∧ l ≠ i) → ((sr.getD j []).map fun l => upd f' (ds.getD i 0) v (ds.getD l 0)) = ((sr.getD j []).map fun l => f' (ds.getD l 0)):=fun j hj => List.map_congr_left fun l hl => by
     obtain ⟨hlm,hli⟩:=hj l hl
     have hlds:l < ds.length:=by omega
     refine upd_ne _ _ fun e9 => ?_
     have e1:ds[l] = ds[i]:=by simpa [List.getD,hlds,hil] using e9
     rcases Nat.lt_or_gt_of_ne hli with hlt' | hlt'
     ·exact (List.pairwise_iff_getElem.1 h3 l i hlds hil hlt') e1
     exact (List.pairwise_iff_getElem.1 h3 i l hil hlds hlt') e1.symm
    rw [hup] at hup'
    replace hup':(Up listed j || j == i) = true:=hup'
    by_cases e:j = i
    ·subst e
     rw [hdi] at hjd
     obtain rfl:=Option.some.inj hjd
     rw [upd_same,if_pos rfl,hsrc j (fun l hl => ⟨Nat.lt_trans (hsr l hl).2 him,Nat.ne_of_lt (hsr l hl).2⟩)]; exact hT
    have hne:d ≠ ds.getD i 0:=fun e2 => by
     subst e2
     obtain ⟨hjl,hje⟩:=List.getElem?_eq_some_iff.1 hjd
     obtain ⟨hil',hie⟩:=List.getElem?_eq_some_iff.1 hdi
     rcases Nat.lt_or_gt_of_ne e with hlt' | hlt'
     ·exact (List.pairwise_iff_getElem.1 h3 j i hjl hil' hlt') (hje.trans hie.symm)
     exact (List.pairwise_iff_getElem.1 h3 i j hil' hjl hlt') (hie.trans hje.symm)
    have:(j == i) = false:=by simpa using e
    rw [this,Bool.or_false] at hup'
    rw [upd_ne _ _ hne,if_neg e,hsrc j (fun l hl => ?_)]
    ·exact htold j d hj hup' hjd
    obtain ⟨oj,hoj,_,hjn,_,hjs,_,_⟩:=h4 j hj
    obtain ⟨hl1,hl2⟩:=hjs l hl
    have hlu:Up listed l = true:=anc (Up listed) hclosed j hj oj hoj (hclosed j hup' oj hoj) l hl1
    exact ⟨Nat.lt_trans hl2 hj,fun e9 => by subst e9; rw [hu] at hlu; cases hlu⟩
   rw [hup]
   have hs2:=hsep.news hN
   refine hs2.perm ?_
   rw [← List.append_assoc]
   exact List.Perm.append_right R0 (pool_upd (Up listed) ρ i r hu m him).symm
  obtain ⟨i0,hi0⟩:=hex
  obtain ⟨i,⟨hi,hu⟩,hmin⟩:=least (p:=fun i => i < m ∧ Up listed i = false) i0 hi0
  have hfirst:∃ o,ops[i]? = some o ∧ i ∈ Region.ready .any ops listed:=by
   obtain ⟨o,ho,hdst,_,_,_,_,hlt⟩:=h4 i hi
   have hir:i ∈ Region.ready .any ops listed:=mem_ready.2 ⟨by unfold Up at hu; rw [← hu]; exact getD_same (by have:=(Array.getElem?_eq_some_iff.1 ho).1; omega),o,ho,fun e he hb => by
    have hjlt:=hlt e.on (mem_needs.2 ⟨e,he,hb,rfl⟩)
    cases hup:Up listed e.on with
    | true => exact hup
    | false => have:=hmin e.on ⟨by omega,hup⟩; omega⟩
   exact ⟨o,ho,hir⟩
  obtain ⟨o,ho,hir⟩:=hfirst
  rcases Classical.em (∃ i,i < m ∧ pu.contains i = false ∧ Up listed i = false) with hA | hA
  ·refine ⟨fun hnil => (by rw [hnil] at hir; cases hir),fun i hi => ?_⟩
   obtain ⟨hu,o,ho,hneed⟩:=hready i hi
   have him:i < m:=by
    rcases Nat.lt_or_ge i m with h | h
    ·exact h
    exfalso
    obtain ⟨i0,hi0,hp0,hu0⟩:=hA
    rcases h5 i h o ho with ⟨k,hk,hmk⟩ | h9
    ·have:=hneed k hk
     rw [hlate k hmk] at this; cases this
    rcases h9 i0 hi0 with h9 | h9 | ⟨k,hk,hik⟩
    ·rw [h9] at hp0; cases hp0
    ·rw [hneed i0 h9] at hu0; cases hu0
    have hkm:k < m:=by
     rcases Nat.lt_or_ge k m with h8 | h8
     ·exact h8
     have:=hneed k hk
     rw [hlate k h8] at this; cases this
    obtain ⟨ok,hok,_⟩:=h4 k hkm
    have:=anc (Up listed) hclosed k hkm ok hok (hclosed k (hneed k hk) ok hok) i0 hik
    rw [this] at hu0; cases hu0
   obtain ⟨hdst,hdi,⟨S,hsep'⟩,hanc,next⟩:=core i o ho him hu hneed
   unfold wpOp
   rw [ho]
   rcases hstep i o him ho Q f' w' ρ S hother hanc hsep' hBl with ⟨hw,hwp⟩ | ⟨hw,hT⟩
   ·simp only [hw,if_true]
    refine .inl (Oper.wp_mono (fun a'' w'' h => ?_) hwp.out)
    obtain ⟨v,r,rfl,hT,hN⟩:=h
    exact next v r w'' hT hN
   simp only [hw,Bool.false_eq_true,if_false]
   rw [hdst,hdi,act_put]
   exact next undef [] w' hT (New.same w')
  have hpi:pu.contains i = true:=by
   cases e:pu.contains i with
   | true => rfl
   | false => exact absurd ⟨i,hi,e,hu⟩ hA
  obtain ⟨_,o2,ho2,hneed⟩:=hready i hir
  obtain rfl:o2 = o:=by rw [ho] at ho2; exact (Option.some.inj ho2).symm
  obtain ⟨hdst,hdi,_,hanc,next⟩:=core i o2 ho hi hu hneed
  obtain ⟨v,hy,hT⟩:=hpure i o2 hpi hi ho f' ρ hother hanc
  refine wpAnyH_first ho (Region.noSelect_spec hsel) (fun c a w h => hQ o2.dst v c a w h) fuel listed (act n f') w' (fun j oj hoj hji hju hno => ?_) hir hy hBl ?_
  ·have hjl:j < listed.size:=by have:=(Array.getElem?_eq_some_iff.1 hoj).1; omega
   have hju':Up listed j = false:=(getD_same hjl).symm.trans hju
   have hcase:m ≤ j ∨ j ∈ pu:=by
    rcases Nat.lt_or_ge j m with h | h
    ·right
     cases e:pu.contains j with
     | true => simpa using e
     | false => exact absurd ⟨j,h,e,hju'⟩ hA
    exact .inl h
   rcases h6 i (by simpa using hpi) o2 ho j oj hoj hji hcase with h | h
   ·obtain ⟨e,he,hb,heq⟩:=mem_needs.1 h
    exact absurd heq (hno e he hb)
   exact h
  rw [hdst,hdi,act_put]
  exact (next v [] w' hT (New.same w')).2
theorem PureOk.step {f:Nat → Value} {ds:List Nat} {nd sr:List (List Nat)} {Bl:List (Nat × List Value × TypeId)} {T:Nat → List Value → Tell} {R0:List Res} {i:Nat} {o:Oper} (h:PureOk P ops n f ds nd sr Bl T i o) (hd:o.dst = some (ds.getD i 0)):StepOk P ops n f ds nd sr Bl T w0 R0 i o:=by
 intro Q f' w' ρ S ho hT hS hB
 obtain ⟨v,hy,hv⟩:=h f' ρ ho hT
 rcases hy with ⟨hw,hr⟩ | ⟨hw,rfl⟩
 ·refine .inl ⟨hw,⟨?_⟩⟩
  unfold Oper.wp
  rw [hr w' hB,Oper.upon_value,hd,act_put]
  exact ⟨v,[],rfl,hv,New.same w'⟩
 exact .inr ⟨hw,hv⟩
def StepsN (P:Program) (ops:Array Oper) (n:Nat) (f:Nat → Value) (ds:List Nat) (nd sr:List (List Nat)) (pu:List Nat) (Bl:List (Nat × List Value × TypeId)) (T:Nat → List Value → Tell) (w0:World) (R0:List Res):Nat → Nat → List Oper → Prop
  | 0,_,_ => True
  | _ + 1,_,[] => True
  | k + 1,i,o :: l => (StepOk P ops n f ds nd sr Bl T w0 R0 i o ∧ (pu.contains i = true → PureOk P ops n f ds nd sr Bl T i o)) ∧ StepsN P ops n f ds nd sr pu Bl T w0 R0 k (i + 1) l
structure Steps (P:Program) (ops:Array Oper) (n:Nat) (f:Nat → Value) (ds:List Nat) (nd sr:List (List Nat)) (pu:List Nat) (Bl:List (Nat × List Value × TypeId)) (T:Nat → List Value → Tell) (w0:World) (R0:List Res) (k i:Nat) (l:List Oper):Prop where
  out:StepsN P ops n f ds nd sr pu Bl T w0 R0 k i l
theorem sNi {f:Nat → Value} {ds:List Nat} {nd sr:List (List Nat)} {pu:List Nat} {Bl:List (Nat × List Value × TypeId)} {T:Nat → List Value → Tell} {R0:List Res} {i:Nat} {l:List Oper}:Steps P ops n f ds nd sr pu Bl T w0 R0 0 i l:=⟨by unfold StepsN; trivial⟩
theorem stepsCons {f:Nat → Value} {ds:List Nat} {nd sr:List (List Nat)} {pu:List Nat} {Bl:List (Nat × List Value × TypeId)} {T:Nat → List Value → Tell} {R0:List Res} {k i:Nat} {o:Oper} {l:List Oper} (hp:pu.contains i = false) (h:StepOk P ops n f ds nd sr Bl T w0 R0 i o) (t:Steps P ops n f ds nd sr pu Bl T w0 R0 k (i + 1) l):Steps P ops n f ds nd sr pu Bl T w0 R0 (k + 1) i (o :: l) :=
  ⟨⟨⟨h,fun h' => by rw [hp] at h'; cases h'⟩,t.out⟩⟩
theorem stepsPure {f:Nat → Value} {ds:List Nat} {nd sr:List (List Nat)} {pu:List Nat} {Bl:List (Nat × List Value × TypeId)} {T:Nat → List Value → Tell} {R0:List Res} {k i:Nat} {o:Oper} {l:List Oper} (hd:o.dst = some (ds.getD i 0)) (h:PureOk P ops n f ds nd sr Bl T i o) (t:Steps P ops n f ds nd sr pu Bl T w0 R0 k (i + 1) l):Steps P ops n f ds nd sr pu Bl T w0 R0 (k + 1) i (o :: l) :=
  ⟨⟨⟨h.step hd,fun _ => h⟩,t.out⟩⟩
theorem stepsAt {f:Nat → Value} {ds:List Nat} {nd sr:List (List Nat)} {pu:List Nat} {Bl:List (Nat × List Value × TypeId)} {T:Nat → List Value → Tell} {R0:List Res}:∀ {k i:Nat} {l:List Oper},StepsN P ops n f ds nd sr pu Bl T w0 R0 k i l → ∀ j o,j < k → l[j]? = some o → StepOk P ops n f ds nd sr Bl T w0 R0 (i + j) o ∧ (pu.contains (i + j) = true → PureOk P ops n f ds nd sr Bl T (i + j) o)
 | 0,_,_,_,j,_,hj,_ => by omega
 | _ + 1,_,[],_,_,_,_,ho => by simp at ho
 | k + 1,i,o :: l,h,0,o',_,ho => by
  simp at ho; subst ho; exact h.1
 | k + 1,i,o :: l,h,j + 1,o',hj,ho => by
  have:=stepsAt (k:=k) (i:=i + 1) (l:=l) h.2 j o' (by omega) (by simpa using ho)
  rwa [show i + 1 + j = i + (j + 1) by omega] at this
theorem yextract {o:Oper} {f:Nat → Value} {t:Operand} {i:Nat} {vs:List Value} {v:Value} (hop:o.op = .extract t i) (hx:(act n f).eval t = .tuple vs.toArray) (hv:vs[i]? = some v) (w:World):(execOp (act n f).eval o).run P w = .ok (.value v) w:=by
  simp [execOp,hop,hx,Instr.extract,hv]
theorem ymove {o:Oper} {f:Nat → Value} {x:Operand} {v:Value} (hop:o.op = .move x) (hx:(act n f).eval x = v) (w:World):(execOp (act n f).eval o).run P w = .ok (.value v) w:=by
  simp [execOp,hop,hx]
theorem wSg {id:Nat} {f:Nat → Value} {R0:List Res} {w:World} {l:List Oper} (m:Nat) (ds:List Nat) (nd sr:List (List Nat)) (pu:List Nat) (Bl:List (Nat × List Value × TypeId)) (T:Nat → List Value → Tell) (hBl:HeldS Bl w) (hQ:∀ (d:Option Tmp) v c a w,Q (.panic c) (a.put d v) w → Q (.panic c) a w) (hsel:Region.noSelect l.toArray = true) (hm:P.follows .mixedOrders = true) (hst:stageB l.toArray ds nd sr pu m = true) (hS:Sep w0 R0 w)
  (hstep:Steps P l.toArray n f ds nd sr pu Bl T w0 R0 m 0 l)
  (hend:∀ (vs:Nat → Value) (ρ : Nat → List Res) (w':World) (f':Nat → Value),f' = layf vs ds 0 f → (∀ i,i < m → T i ((sr.getD i []).map fun l => vs l) (vs i) (ρ i)) → Sep w0 (pool (fun _ => true) ρ m ++ R0) w' → Late P l.toArray Q Bl m (act n f') w') :
  CW P (Code.region id l.toArray true) Q (act n f) w:=by
 refine ⟨wp_region_any hm (wpAny_of_held (S:=HeldS Bl) _ _ _ _ ?_)⟩
 have hup:∀ i,Up (Array.replicate l.toArray.size false) i = false:=fun i => by
  unfold Up; simp [Array.getElem?_replicate]; split <;> rfl
 have hcount:((List.range m).countP fun i => !Up (Array.replicate l.toArray.size false) i) = m:=by
  have:((List.range m).countP fun i => !Up (Array.replicate l.toArray.size false) i) = (List.range m).length:=List.countP_eq_length.2 fun i _ => by rw [hup]; rfl
  rw [this,List.length_range]
 have hat:∀ i o,i < m → l.toArray[i]? = some o → StepOk P l.toArray n f ds nd sr Bl T w0 R0 i o ∧ (pu.contains i = true → PureOk P l.toArray n f ds nd sr Bl T i o):=fun i o hi ho => by have:=stepsAt hstep.out i o hi (by simpa using ho); rwa [Nat.zero_add] at this
 refine wstage_go hsel hQ (fun i o hp hi ho => (hat i o hi ho).2 hp) hst (fun i o hi ho => (hat i o hi ho).1) hend m _ _ f w.drew (fun _ => []) (by simp) hcount (Nat.le_refl _) (fun i _ => hup i) (fun i hi => by rw [hup i] at hi; cases hi) (fun _ _ => rfl) (fun i d _ hi => by rw [hup i] at hi; cases hi) ?_ ?_
 have e:∀ k,pool (Up (Array.replicate l.toArray.size false)) (fun _ => []) k = []:=fun k => by
  induction k with
  | zero => rfl
  | succ k ih => simp only [pool,ih]; split <;> rfl
 ·rw [e,List.nil_append]
  exact hS.drew
 exact hBl.grow (Below.refl _ _).drew
end
open Go.RowKit
def Ret (T:Tell) (w:World) (e:Ending) (w':World):Prop := ∃ v r,e = .returned v ∧ T v r ∧ New w r w'
theorem cNw {T:Tell} {w:World} {D:Value → Act}:∀ e w',Ret T w e w' → ∃ v,e = .returned v ∧ ∃ v2 r,D v = D v2 ∧ T v2 r ∧ New w r w':=fun _ _ ⟨v,r,h,hT,hN⟩ => ⟨v,h,v,r,rfl,hT,hN⟩
def Res.rowm (p:Option Addr) (n c:Nat) (xs:List Nat):Res where
  own:=true
  arg:=false
  foot k:=p = some ⟨k,0,none⟩
  holds w:=Fr 0 w p n c xs
  lt w h k hk:=by subst hk; exact h.block.2
  stays w w' he h:=h.same he
theorem New.rowm {w w':World} (hb:Below w.heap.size w w') {p:Option Addr} {n c:Nat} {xs:List Nat} (hf:Fr w.heap.size w' p n c xs):New w [.rowm p n c xs] w' :=
  New.one hb hf.at0 (fun g hg => by have hg':p = some ⟨g,0,none⟩:=hg; subst hg'; exact hf.block.1)
theorem New.rows3 {w w':World} (hb:Below w.heap.size w w') {p q r:Option Addr} {n c m d k f:Nat} {xs ys zs:List Nat} (h1:Fr w.heap.size w' p n c xs) (h2:Fr w.heap.size w' q m d ys) (h3:Fr w.heap.size w' r k f zs):New w [.row p n c xs,.row q m d ys,.row r k f zs] w':=by
 have a:=New.row hb h1
 have b:=New.rows2 hb h2 h3
 refine ⟨hb,fun x hx => ?_,fun x hx => ?_,List.Pairwise.cons (fun x hx he => ?_) b.apart⟩
 ·rcases List.mem_cons.1 hx with rfl | hx
  ·exact a.holds _ List.mem_cons_self
  exact b.holds _ hx
 ·rcases List.mem_cons.1 hx with rfl | hx
  ·exact a.high _ List.mem_cons_self
  exact b.high _ hx
 rcases List.mem_cons.1 hx with rfl | hx
 ·cases he
 rw [List.mem_singleton.1 hx] at he; cases he
theorem Sep.new0 {R:List Res} {w w':World} (h:Sep w R w'):New w [] w':=New.nil h.below
theorem Sep.new1 {R:List Res} {w w':World} (h:Sep w R w') (k:Nat) {p:Option Addr} {n c:Nat} {xs:List Nat} (hk:R[k]? = some (.row p n c xs)):New w [.row p n c xs] w':=New.row h.below (h.rowAt k hk)
def Zt (z:Int):Tell:=fun v r => ∃ p n c,v = .agg #[.bool (ng z),.slice p n c] ∧ r = [.row p n c (lim z.natAbs)]
def Zm (z:Int):Tell:=fun v r => ∃ p n c,v = .agg #[.bool (ng z),.slice p n c] ∧ r = [.rowm p n c (lim z.natAbs)]
def NEt (xs:List Nat) (E:Int):Tell:=fun v r => ∃ p n c,v = .tuple #[.slice p n c,.int .i64 E] ∧ r = [.row p n c xs]
def ZEt (z:Int) (E:Int):Tell:=fun v r => ∃ p n c,v = .tuple #[.agg #[.bool (ng z),.slice p n c],.int .i64 E] ∧ r = [.row p n c (lim z.natAbs)]
def ZBt (z:Int) (E:Bool):Tell:=fun v r => ∃ p n c,v = .tuple #[.agg #[.bool (ng z),.slice p n c],.bool E] ∧ r = [.row p n c (lim z.natAbs)]
def ZZt (x y:Int):Tell:=fun v r => ∃ p n c q m d,v = .tuple #[.agg #[.bool (ng x),.slice p n c],.agg #[.bool (ng y),.slice q m d]] ∧ r = [.row p n c (lim x.natAbs),.row q m d (lim y.natAbs)]
def ZZEt (x y:Int) (E:Int):Tell:=fun v r => ∃ p n c q m d,v = .tuple #[.agg #[.bool (ng x),.slice p n c],.agg #[.bool (ng y),.slice q m d],.int .i64 E] ∧ r = [.row p n c (lim x.natAbs),.row q m d (lim y.natAbs)]
def ZZZt (x y z:Int):Tell:=fun v r => ∃ p n c q m d i k f,v = .tuple #[.agg #[.bool (ng x),.slice p n c],.agg #[.bool (ng y),.slice q m d],.agg #[.bool (ng z),.slice i k f]] ∧ r = [.row p n c (lim x.natAbs),.row q m d (lim y.natAbs),.row i k f (lim z.natAbs)]
def Mkt (b:Bool) (p:Option Addr) (n c:Nat):Tell:=Is (.agg #[.bool b,.slice p n c])
theorem RetZ.u {w:World} {z:Int} (e:Ending) (w':World) (h:RetZ w z e w'):Ret (Zt z) w e w':=by
  obtain ⟨p,n,c,rfl,hf,hb⟩:=h; exact ⟨_,_,rfl,⟨p,n,c,rfl,rfl⟩,New.row hb hf⟩
theorem RetN.u {w:World} {xs:List Nat} (e:Ending) (w':World) (h:RetN w xs e w'):Ret (Nt xs) w e w':=by
  obtain ⟨p,n,c,rfl,hf,hb⟩:=h; exact ⟨_,_,rfl,⟨p,n,c,rfl,rfl⟩,New.row hb hf⟩
theorem RetNE.u {w:World} {xs:List Nat} {E:Int} (e:Ending) (w':World) (h:RetNE w xs E e w'):Ret (NEt xs E) w e w':=by
  obtain ⟨p,n,c,rfl,hf,hb⟩:=h; exact ⟨_,_,rfl,⟨p,n,c,rfl,rfl⟩,New.row hb hf⟩
theorem RetZE.u {w:World} {z E:Int} (e:Ending) (w':World) (h:RetZE w z E e w'):Ret (ZEt z E) w e w':=by
  obtain ⟨p,n,c,rfl,hf,hb⟩:=h; exact ⟨_,_,rfl,⟨p,n,c,rfl,rfl⟩,New.row hb hf⟩
theorem RetZB.u {w:World} {z:Int} {b:Bool} (e:Ending) (w':World) (h:RetZB w z b e w'):Ret (ZBt z b) w e w':=by
  obtain ⟨p,n,c,rfl,hf,hb⟩:=h; exact ⟨_,_,rfl,⟨p,n,c,rfl,rfl⟩,New.row hb hf⟩
theorem RetZZ.u {w:World} {x y:Int} (e:Ending) (w':World) (h:RetZZ w x y e w'):Ret (ZZt x y) w e w':=by
  obtain ⟨p,n,c,q,m,d,rfl,hf,hg,hb⟩:=h; exact ⟨_,_,rfl,⟨p,n,c,q,m,d,rfl,rfl⟩,New.rows2 hb hf hg⟩
theorem RetZZE.u {w:World} {x y E:Int} (e:Ending) (w':World) (h:RetZZE w x y E e w'):Ret (ZZEt x y E) w e w':=by
  obtain ⟨p,n,c,q,m,d,rfl,hf,hg,hb⟩:=h; exact ⟨_,_,rfl,⟨p,n,c,q,m,d,rfl,rfl⟩,New.rows2 hb hf hg⟩
theorem RetZZZ.u {w:World} {x y z:Int} (e:Ending) (w':World) (h:RetZZZ w x y z e w'):Ret (ZZZt x y z) w e w':=by
  obtain ⟨p,n,c,q,m,d,i,k,f,rfl,h1,h2,h3,hb⟩:=h; exact ⟨_,_,rfl,⟨p,n,c,q,m,d,i,k,f,rfl,rfl⟩,New.rows3 hb h1 h2 h3⟩
theorem RetInt.u {w:World} {z:Int} (e:Ending) (w':World) (h:RetInt w z e w'):Ret (Is (.int .i64 z)) w e w':=⟨_,_,h.1,isI,New.nil h.2⟩
theorem RetB.u {w:World} {b:Bool} (e:Ending) (w':World) (h:RetB w b e w'):Ret (Is (.bool b)) w e w':=⟨_,_,h.1,isI,New.nil h.2⟩
theorem RetLen.u {w:World} {k:Nat} (e:Ending) (w':World) (h:RetLen w k e w'):Ret (Is (.int .i64 (k:Int))) w e w':=⟨_,_,h.1,isI,by rw [h.2]; exact New.same _⟩
theorem RetMk.u {w:World} {b:Bool} {p:Option Addr} {n c:Nat} (e:Ending) (w':World) (h:RetMk w b p n c e w'):Ret (Mkt b p n c) w e w':=⟨_,_,h.1,isI,New.nil h.2⟩
theorem same_u {w:World} {V:Value} (e:Ending) (w':World) (h:e = .returned V ∧ w = w'):Ret (Is V) w e w':=⟨_,_,h.1,isI,by rw [h.2]; exact New.same _⟩
theorem Ret.z {w:World} {z:Int} (e:Ending) (w':World) (h:Ret (Zt z) w e w'):RetZ w z e w':=by
  obtain ⟨_,_,rfl,⟨p,n,c,rfl,rfl⟩,hN⟩:=h
  have h1:Fr 0 w' p n c (lim z.natAbs):=hN.holds _ List.mem_cons_self
  exact ⟨p,n,c,rfl,h1.raise (fun g hg => hN.high _ List.mem_cons_self g hg),hN.below⟩
theorem Ret.b {w:World} {b:Bool} (e:Ending) (w':World) (h:Ret (Is (.bool b)) w e w'):RetB w b e w':=by
  obtain ⟨_,_,rfl,⟨rfl,rfl⟩,hN⟩:=h; exact ⟨rfl,hN.below⟩
theorem aggZ:Agg Tryz.prog 28 2:=⟨Tryz.isAgg28,Tryz.sizeOf28⟩
theorem oneB:One Tryz.prog 4:=⟨Tryz.isAgg4,Tryz.sizeOf4⟩
theorem oneN:One Tryz.prog 26:=⟨Tryz.isAgg26,Tryz.sizeOf26⟩
theorem one32:One Tryz.prog 63:=⟨Tryz.isAgg63,Tryz.sizeOf63⟩
section
variable {P:Program} {o:Oper} {n:Nat} {f:Nat → Value} {w w0:World} {R:List Res} {K:Act → World → Prop} {Q:Exit → Act → World → Prop} {d:Nat}
theorem wNo {ops:Array Oper} {a:Act} (hg:o.guard = none):Region.wanted o (yielded ops a.tmps) = true:=by simp [Region.wanted,hg]
theorem args0 {a:Act}:(#[]:Array Operand).map a.eval = #[]:=by simp
theorem ar1 {a:Act} {x:Operand} {u:Value} (h1:a.eval x = u) : #[x].map a.eval = #[u]:=by simp [h1]
theorem ar2 {a:Act} {x y:Operand} {u v:Value} (h1:a.eval x = u) (h2:a.eval y = v) : #[x,y].map a.eval = #[u,v]:=by simp [h1,h2]
theorem args3 {a:Act} {x y z:Operand} {u v s:Value} (h1:a.eval x = u) (h2:a.eval y = v) (h3:a.eval z = s) : #[x,y,z].map a.eval = #[u,v,s]:=by simp [h1,h2,h3]
theorem oallocN {ty:TypeId} {z:Value} (cs:List Value) (hop:o.op = .alloc ty) (ho:o.dst = some d) (hz:∀ w,(zeroValue ty).run P w = .ok z w) (hcs:z.cells = cs.toArray)
  (hK:K (act n (upd f d (.pointer (some ⟨w.heap.size,0,none⟩)))) (w.alloc (.cells cs.toArray ty))):OW P o (act n f) w K Q:=by
 refine ⟨?_⟩
 unfold Oper.wp
 simp [execOp,hop,hz,Instr.alloc,newVar,newRow,hcs]
 rw [Oper.upon_value,ho,act_put]
 exact hK
theorem oFA {s:TypeId} {x:Operand} {i:Nat} {g off:Nat} {fs:Array Field} {fd:Field} {k:Nat} (off':Nat) (hop:o.op = .fieldAddr s x i) (ho:o.dst = some d) (hx:(act n f).eval x = .pointer (some ⟨g,off,none⟩)) (hu:∀ w,(underlying s).run P w = .ok (.struct fs) w) (hf:fs[i]? = some fd) (hz:∀ w,(sizeOf fd.type).run P w = .ok (k + 1) w) (he:off + fd.offset = off')
  (hK:K (act n (upd f d (.pointer (some ⟨g,off',none⟩)))) w):OW P o (act n f) w K Q:=by
 subst he
 refine oval ho ?_ rfl hK
 have e:(⟨g,off,none⟩:Addr).add fd.offset = ⟨g,off + fd.offset,none⟩:=Addr.add_mid _ _ _
 simp [execOp,hop,hx,Instr.fieldAt,hu,hf,Instr.sureAddr,fieldPlace,hz,e]
theorem ofield {s:TypeId} {x:Operand} {i sz:Nat} {cs vs:List Value} {fs:Array Field} {fd:Field} {v:Value} (hop:o.op = .field s x i) (ho:o.dst = some d) (hx:(act n f).eval x = .agg cs.toArray) (hr:∀ w,(Instr.field s (.agg cs.toArray) i).run P w = .ok v w)
  (hK:K (act n (upd f d v)) w):OW P o (act n f) w K Q:=by
 refine oval ho ?_ rfl hK
 simp [execOp,hop,hx,hr]
theorem obuild {t:TypeId} {parts:Array (Nat × Operand)} {ps:Array (Nat × Value)} {v:Value} (hop:o.op = .build t parts) (ho:o.dst = some d) (hx:(parts.map fun (i,x) => (i,(act n f).eval x)) = ps) (hr:∀ w,(Instr.build t ps).run P w = .ok v w)
  (hK:K (act n (upd f d v)) w):OW P o (act n f) w K Q:=by
 refine oval ho ?_ rfl hK
 simp only [execOp,hop]
 rw [hx,Sem.run_bind,hr]; rfl
theorem bLs {k:IntKind} {t:TypeId} {x y:Operand} {a b:Int} {c:Bool} (h:decide (a < b) = c):(do eqGuard .lss t x y (.int k a) (.int k b); binOp .lss t (.int k a) (.int k b):Sem Value).run P w = .ok (.bool c) w:=by
  subst h; simp [eqGuard,binOp,Op.intCmp]
theorem bin_leq {k:IntKind} {t:TypeId} {x y:Operand} {a b:Int} {c:Bool} (h:decide (a ≤ b) = c):(do eqGuard .leq t x y (.int k a) (.int k b); binOp .leq t (.int k a) (.int k b):Sem Value).run P w = .ok (.bool c) w:=by
  subst h; simp [eqGuard,binOp,Op.intCmp]
theorem bin_gtr {k:IntKind} {t:TypeId} {x y:Operand} {a b:Int} {c:Bool} (h:decide (b < a) = c):(do eqGuard .gtr t x y (.int k a) (.int k b); binOp .gtr t (.int k a) (.int k b):Sem Value).run P w = .ok (.bool c) w:=by
  subst h; simp [eqGuard,binOp,Op.intCmp]
theorem bEq {k:IntKind} {t:TypeId} {x y:Operand} {a b:Int} {c:Bool} (h:(a == b) = c):(do eqGuard .eql t x y (.int k a) (.int k b); binOp .eql t (.int k a) (.int k b):Sem Value).run P w = .ok (.bool c) w:=by
  subst h; simp [eqGuard,binOp,Op.intCmp]
theorem bNe {k:IntKind} {t:TypeId} {x y:Operand} {a b:Int} {c:Bool} (h:(a != b) = c):(do eqGuard .neq t x y (.int k a) (.int k b); binOp .neq t (.int k a) (.int k b):Sem Value).run P w = .ok (.bool c) w:=by
  subst h; simp [eqGuard,binOp,Op.intCmp]
theorem bAd {k:IntKind} {t:TypeId} {x y:Operand} {a b c:Int} (h:k.wrap (a + b) = c):(do eqGuard .add t x y (.int k a) (.int k b); binOp .add t (.int k a) (.int k b):Sem Value).run P w = .ok (.int k c) w:=by
  subst h; simp [eqGuard,binOp,Op.intArith]
theorem bin_sub {k:IntKind} {t:TypeId} {x y:Operand} {a b c:Int} (h:k.wrap (a - b) = c):(do eqGuard .sub t x y (.int k a) (.int k b); binOp .sub t (.int k a) (.int k b):Sem Value).run P w = .ok (.int k c) w:=by
  subst h; simp [eqGuard,binOp,Op.intArith]
theorem bin_mul {k:IntKind} {t:TypeId} {x y:Operand} {a b c:Int} (h:k.wrap (a * b) = c):(do eqGuard .mul t x y (.int k a) (.int k b); binOp .mul t (.int k a) (.int k b):Sem Value).run P w = .ok (.int k c) w:=by
  subst h; simp [eqGuard,binOp,Op.intArith]
end
open Go.RowKit
def sets (f:Nat → Value):List (Nat × Value) → Nat → Value
  | [] => f
  | (d,v) :: l => upd (sets f l) d v
def AllAt (f:Nat → Value):List (Nat × Value) → Prop
  | [] => True
  | (d,v) :: l => f d = v ∧ AllAt f l
theorem sets_self {f:Nat → Value}:∀ {l:List (Nat × Value)},AllAt f l → sets f l = f
 | [],_ => rfl
 | (d,v) :: l,h => by
  rw [sets,sets_self h.2]
  exact (upd_is h.1).symm
theorem aSs {n:Nat} {f:Nat → Value} {l:List (Nat × Value)} (h:AllAt f l):act n f = act n (sets f l):=by rw [sets_self h]
theorem Sep.pick {w0:World} {R S:List Res} {w:World} (h:Sep w0 R w) (ks:List Nat) (hn:ks.Nodup) (he:ks.map (fun k => R[k]?) = S.map some):Sep w0 S w:=by
 have hlen:ks.length = S.length:=by have:=congrArg List.length he; simpa using this
 have hat:∀ (i:Nat) (hi:i < S.length) (hk:i < ks.length),R[ks[i]]? = some S[i]:=fun i hi hk => by
  have:=congrArg (fun l => l[i]?) he
  simpa [hi,hk] using this
 have hmem:∀ s ∈ S,s ∈ R:=fun s hs => by
  obtain ⟨i,hi,rfl⟩:=List.mem_iff_getElem.1 hs
  exact List.mem_of_getElem? (hat i hi (by omega))
 refine ⟨h.below,fun s hs => h.holds s (hmem s hs),fun s hs => h.low s (hmem s hs),List.pairwise_iff_getElem.2 fun i j hi hj hij => ?_⟩
 obtain ⟨h1,e1⟩:=List.getElem?_eq_some_iff.1 (hat i hi (by omega))
 obtain ⟨h2,e2⟩:=List.getElem?_eq_some_iff.1 (hat j hj (by omega))
 rw [← e1, ← e2]
 have hne:ks[i] ≠ ks[j]:=List.pairwise_iff_getElem.1 hn i j (by omega) (by omega) hij
 rcases Nat.lt_or_gt_of_ne hne with hlt | hlt
 ·exact List.pairwise_iff_getElem.1 h.apart _ _ h1 h2 hlt
 exact (List.pairwise_iff_getElem.1 h.apart _ _ h2 h1 hlt).symm
theorem Sep.flat1 {w0 w:World} {R S:List Res} {ρ : Nat → List Res} {a0:Nat} {r0:List Res} {l:List Nat} (h:Sep w0 (R ++ ((a0 :: l).flatMap ρ ++ S)) w) (h0 : ρ a0 = r0):Sep w0 (R ++ (r0 ++ (l.flatMap ρ ++ S))) w:=by
  simpa [List.flatMap_cons,h0] using h
theorem Sep.flat2 {w0 w:World} {R S:List Res} {ρ : Nat → List Res} {a0 a1:Nat} {r0 r1:List Res} {l:List Nat} (h:Sep w0 (R ++ ((a0 :: a1 :: l).flatMap ρ ++ S)) w) (h0 : ρ a0 = r0) (h1 : ρ a1 = r1):Sep w0 (R ++ (r0 ++ (r1 ++ (l.flatMap ρ ++ S)))) w:=by
  simpa [List.flatMap_cons,h0,h1] using h
theorem Sep.flat3 {w0 w:World} {R S:List Res} {ρ : Nat → List Res} {a0 a1 a2:Nat} {r0 r1 r2:List Res} {l:List Nat} (h:Sep w0 (R ++ ((a0 :: a1 :: a2 :: l).flatMap ρ ++ S)) w) (h0 : ρ a0 = r0) (h1 : ρ a1 = r1) (h2 : ρ a2 = r2):Sep w0 (R ++ (r0 ++ (r1 ++ (r2 ++ (l.flatMap ρ ++ S))))) w:=by
  simpa [List.flatMap_cons,h0,h1,h2] using h
theorem Sep.flat4 {w0 w:World} {R S:List Res} {ρ : Nat → List Res} {a0 a1 a2 a3:Nat} {r0 r1 r2 r3:List Res} {l:List Nat} (h:Sep w0 (R ++ ((a0 :: a1 :: a2 :: a3 :: l).flatMap ρ ++ S)) w) (h0 : ρ a0 = r0) (h1 : ρ a1 = r1) (h2 : ρ a2 = r2) (h3 : ρ a3 = r3):Sep w0 (R ++ (r0 ++ (r1 ++ (r2 ++ (r3 ++ (l.flatMap ρ ++ S)))))) w:=by
  simpa [List.flatMap_cons,h0,h1,h2,h3] using h
theorem Sep.rowmAt {w0:World} {R:List Res} {w:World} (h:Sep w0 R w) (k:Nat) {p:Option Addr} {n c:Nat} {xs:List Nat} (hk:R[k]? = some (.rowm p n c xs)):Fr w0.heap.size w p n c xs :=
  (show Fr 0 w p n c xs from h.get k hk).raise (fun g hg => h.low _ (List.mem_of_getElem? hk) rfl g hg)
theorem Sep.slm {w0:World} {R:List Res} {w:World} (h:Sep w0 R w) (k:Nat) {p:Option Addr} {n c:Nat} {xs:List Nat} (hk:R[k]? = some (.rowm p n c xs)):Sl w p n c xs:=(h.rowmAt k hk).sl
theorem parts0 {a:Act}:((#[]:Array (Nat × Operand)).map fun (i,x) => (i,a.eval x)) = #[]:=by simp
theorem parts1 {a:Act} {x0:Operand} {u0:Value} {i0:Nat} (h0:a.eval x0 = u0):(#[(i0,x0)].map fun (i,x) => (i,a.eval x)) = #[(i0,u0)]:=by simp [h0]
theorem parts2 {a:Act} {x0 x1:Operand} {u0 u1:Value} {i0 i1:Nat} (h0:a.eval x0 = u0) (h1:a.eval x1 = u1):(#[(i0,x0),(i1,x1)].map fun (i,x) => (i,a.eval x)) = #[(i0,u0),(i1,u1)]:=by simp [h0,h1]
theorem parts3 {a:Act} {x0 x1 x2:Operand} {u0 u1 u2:Value} {i0 i1 i2:Nat} (h0:a.eval x0 = u0) (h1:a.eval x1 = u1) (h2:a.eval x2 = u2):(#[(i0,x0),(i1,x1),(i2,x2)].map fun (i,x) => (i,a.eval x)) = #[(i0,u0),(i1,u1),(i2,u2)]:=by simp [h0,h1,h2]
section
variable {P:Program} {o:Oper} {n:Nat} {f:Nat → Value} {w w0:World} {R:List Res} {K:Act → World → Prop} {Q:Exit → Act → World → Prop} {d:Nat}
theorem oIx {t e:TypeId} {x i:Operand} {p:Option Addr} {g off m c k sz j:Nat} (hop:o.op = .indexAddr t x i) (ho:o.dst = some d) (ht:∀ w,(underlying t).run P w = .ok (.slice e) w) (hs:∀ w,(sizeOf e).run P w = .ok sz w)
  (hx:(act n f).eval x = .slice p m c) (hp:p = some ⟨g,off,none⟩) (hi:(act n f).eval i = .int .i64 (k:Int)) (hk:k < m) (hj:off + k * sz = j)
  (hK:K (act n (upd f d (.pointer (some ⟨g,j,none⟩)))) w):OW P o (act n f) w K Q:=by
 subst hp; subst hj
 refine oval ho ?_ rfl hK
 have e:(⟨g,off,none⟩:Addr).add (k * sz) = ⟨g,off + k * sz,none⟩:=Addr.add_mid _ _ _
 have h1:(0:Int) ≤ (k:Int) ∧ (k:Int) < (m:Int):=by omega
 simp [execOp,hop,hx,hi,Instr.indexAt,asIntOf,ht,hs,h1,e,hk]
theorem cvI {s t:TypeId} {k k':IntKind} {a b:Int} {ds:TypeDesc} (hs:∀ w,(underlying s).run P w = .ok ds w) (ht:∀ w,(underlying t).run P w = .ok (.int k) w) (h:k.wrap a = b):(convert s t (.int k' a)).run P w = .ok (.int k b) w:=by
  subst h
  simp [convert,hs,ht,Conv.intToInt]
theorem oCv {s t:TypeId} {x:Operand} {u v:Value} (hop:o.op = .convert s t x) (ho:o.dst = some d) (hx:(act n f).eval x = u) (hr:(convert s t u).run P w = .ok v w) (hK:K (act n (upd f d v)) w):OW P o (act n f) w K Q:=by
  refine oval ho ?_ rfl hK
  simp only [execOp,hop,hx]
  rw [Sem.run_bind,hr]; rfl
end
open Go.RowKit
theorem eqT {a b:Int} (h:a = b):(a == b) = true:=by simpa using h
theorem eqF {a b:Int} (h:a ≠ b):(a == b) = false:=by simpa using h
theorem neT {a b:Int} (h:a ≠ b):(a != b) = true:=by simpa using h
theorem neF {a b:Int} (h:a = b):(a != b) = false:=by simpa using h
theorem wU6 {a:Int} (h0:0 ≤ a) (h1:a < 18446744073709551616):IntKind.u64.wrap a = a:=by
  unfold IntKind.wrap
  simp [IntKind.bits,IntKind.signed]
  omega
theorem wrap_u32 {a:Int} (h0:0 ≤ a) (h1:a < 4294967296):IntKind.u32.wrap a = a:=by
  unfold IntKind.wrap
  simp [IntKind.bits,IntKind.signed]
  omega
theorem wI6 {a:Int} (h0 : -9223372036854775808 ≤ a) (h1:a ≤ 9223372036854775807):IntKind.i64.wrap a = a:=by
  exact IntWalk.i64_in _ (by omega)
section
variable {P:Program} {o:Oper} {n:Nat} {f:Nat → Value} {w w0:World} {R:List Res} {K:Act → World → Prop} {Q:Exit → Act → World → Prop} {d:Nat}
theorem oneg {t:TypeId} {x:Operand} {k:IntKind} {a c:Int} (hop:o.op = .unOp .neg t x) (ho:o.dst = some d) (hx:(act n f).eval x = .int k a) (h:k.wrap (-a) = c) (hK:K (act n (upd f d (.int k c))) w):OW P o (act n f) w K Q :=
  oval ho (by subst h; simp [execOp,hop,hx,Op.unary,Op.intArith]) rfl hK
theorem bin_shl {k k':IntKind} {t:TypeId} {x y:Operand} {a b c:Int} (h0:0 ≤ b) (h:k.wrap (a * 2 ^ (min b.toNat k.bits)) = c):(do eqGuard .shl t x y (.int k a) (.int k' b); binOp .shl t (.int k a) (.int k' b):Sem Value).run P w = .ok (.int k c) w:=by
  subst h; simp [eqGuard,binOp,Op.shift,show ¬ b < 0 by omega]
theorem bin_rem {k:IntKind} {t:TypeId} {x y:Operand} {a b c:Int} (h0:b ≠ 0) (h:a.tmod b = c):(do eqGuard .rem t x y (.int k a) (.int k b); binOp .rem t (.int k a) (.int k b):Sem Value).run P w = .ok (.int k c) w:=by
  subst h; simp [eqGuard,binOp,Op.intDiv,h0]
theorem bin_quo {k:IntKind} {t:TypeId} {x y:Operand} {a b c:Int} (h0:b ≠ 0) (h:k.wrap (a.tdiv b) = c):(do eqGuard .quo t x y (.int k a) (.int k b); binOp .quo t (.int k a) (.int k b):Sem Value).run P w = .ok (.int k c) w:=by
  subst h; simp [eqGuard,binOp,Op.intDiv,h0]
theorem bin_or64 {t:TypeId} {x y:Operand} {a b:Nat} (ha:a < 4294967296) (hb:b < 4294967296):(do eqGuard .or t x y (.int .u64 ((a * 4294967296:Nat):Int)) (.int .u64 (b:Int)); binOp .or t (.int .u64 ((a * 4294967296:Nat):Int)) (.int .u64 (b:Int)):Sem Value).run P w = .ok (.int .u64 ((a * 4294967296 + b:Nat):Int)) w:=by
 have e1:(BitVec.ofInt 64 ((a * 4294967296:Nat):Int)).toNat = a * 4294967296:=by
  rw [BitVec.toNat_ofInt]; omega
 have e2:(BitVec.ofInt 64 (b:Int)).toNat = b:=by
  rw [BitVec.toNat_ofInt]; omega
 have e3:a * 4294967296 ||| b = a * 4294967296 + b:=by
  have:=Nat.two_pow_add_eq_or_of_lt (i:=32) (b:=b) (by omega) a
  rw [Nat.mul_comm] at this
  exact this.symm
 have e4:(BitVec.ofInt 64 ((a * 4294967296:Nat):Int) ||| BitVec.ofInt 64 (b:Int)).toNat = a * 4294967296 + b:=by
  rw [BitVec.toNat_or,e1,e2,e3]
 have e5:IntKind.u64.wrap (((a * 4294967296 + b:Nat)):Int) = ((a * 4294967296 + b:Nat):Int):=wU6 (by omega) (by omega)
 show (Op.intBits .or .u64 ((a * 4294967296:Nat):Int) (b:Int)).run P w = _
 show (pure (.int .u64 (IntKind.u64.wrap ((BitVec.ofInt 64 ((a * 4294967296:Nat):Int) ||| BitVec.ofInt 64 (b:Int)).toNat:Int))):Sem Value).run P w = _
 rw [e4,e5]; rfl
end
theorem lim1 {N:Nat} (h:ll N = 1):nd (lim N) 0 = N:=by
  have h1:=vLm N
  have h2:=length_lim N
  rw [h] at h2
  match hl:lim N,h2 with
  | [x],_ => rw [hl] at h1; simpa [val,sm,nd] using h1
theorem lim_two {N:Nat} (h:ll N = 2):nd (lim N) 1 * 4294967296 + nd (lim N) 0 = N:=by
  have h1:=vLm N
  have h2:=length_lim N
  rw [h] at h2
  match hl:lim N,h2 with
  | [x,y],_ => rw [hl] at h1; simp [val,sm,nd] at h1 ⊢; omega
open Go.RowKit
section
variable {P:Program} {ops:Array Oper} {rest:List Oper} {n d e e2:Nat} {f:Nat → Value} {w w0:World} {R:List Res} {Q Q2:Exit → Act → World → Prop} {t} {ps} {af} {u v z:Value}
theorem wmv (h1:Nat.blt e n = true) (hv:f e = v) (hK:LW P ops Q rest (act n (upd f d v)) w):LW P ops Q ({ dst:=some d,op:=.move (.tmp e),type:=t,pos:=ps,after:=af,guard:=none } :: rest) (act n f) w:=wl rfl (omove rfl rfl (ev h1 hv) hK)
theorem wav (h1:Nat.blt e n = true) (hv:f e = v) (hK:LW P ops Q rest (act n (upd f d v)) w):LW P ops Q ({ dst:=some d,op:=.assign (.tmp e),type:=t,pos:=ps,after:=af,guard:=none } :: rest) (act n f) w:=wl rfl (oassign rfl rfl (ev h1 hv) hK)
theorem wmvc (hK:LW P ops Q rest (act n (upd f d v)) w):LW P ops Q ({ dst:=some d,op:=.move (.const v),type:=t,pos:=ps,after:=af,guard:=none } :: rest) (act n f) w:=wl rfl (omove rfl rfl evc hK)
theorem wavc (hK:LW P ops Q rest (act n (upd f d v)) w):LW P ops Q ({ dst:=some d,op:=.assign (.const v),type:=t,pos:=ps,after:=af,guard:=none } :: rest) (act n f) w:=wl rfl (oassign rfl rfl evc hK)
theorem wbt {op:BinOp} {ty ty':TypeId} (h1:Nat.blt e n = true) (hu:f e = u) (h2:Nat.blt e2 n = true) (hv:f e2 = v) (hr:(do eqGuard op ty (.tmp e) (.tmp e2) u v; binOp op ty u v:Sem Value).run P w = .ok z w) (hK:LW P ops Q rest (act n (upd f d z)) w):LW P ops Q ({ dst:=some d,op:=.binOp op ty (.tmp e) (.tmp e2) ty',type:=t,pos:=ps,after:=af,guard:=none } :: rest) (act n f) w:=wl rfl (obin rfl rfl (ev h1 hu) (ev h2 hv) hr hK)
theorem wbc {op:BinOp} {ty ty':TypeId} (h1:Nat.blt e n = true) (hu:f e = u) (hr:(do eqGuard op ty (.tmp e) (.const v) u v; binOp op ty u v:Sem Value).run P w = .ok z w) (hK:LW P ops Q rest (act n (upd f d z)) w):LW P ops Q ({ dst:=some d,op:=.binOp op ty (.tmp e) (.const v) ty',type:=t,pos:=ps,after:=af,guard:=none } :: rest) (act n f) w:=wl rfl (obin rfl rfl (ev h1 hu) evc hr hK)
theorem wcl {F:FuncId} {xs:Array Operand} {ts:Array TypeId} {vs:Array Value} {T:Tell} (hF:∀ args w,(callFunc F args).run P w = .ok (.enter F args) w) (hC:Calls P F vs w (Ret T w)) (hx:xs.map (act n f).eval = vs) (hS:Sep w0 R w) (hK:∀ v r w',T v r → Sep w0 (r ++ R) w' → LW P ops Q rest (act n (upd f d v)) w'):LW P ops Q ({ dst:=some d,op:=.call { callee:=.value (.func F),args:=xs,argTypes:=ts },type:=t,pos:=ps,after:=af,guard:=none } :: rest) (act n f) w :=
  wl rfl (oCl rfl rfl hF rfl hC hx fun _ _ ⟨v,r,h,hT,hN⟩ => ⟨v,h,hK v r _ hT (hS.news hN)⟩)
theorem wn1 {N:Act → World → Prop} {a:Act} (h:N a w):LW P ops (Exit.then N Q) [] a w:=wnil (tNo h)
theorem wsr {id:Nat} {l:List Oper} {y:Code} {a:Act} (h:LW P l.toArray (Exit.then (fun a w => CW P y Q a w) Q) l a w):CW P (Code.seq (Code.region id l.toArray false) y) Q a w:=wSq (wreg h)
theorem wn2 {id:Nat} {l:List Oper} {y:Code} {a:Act} (h:LW P l.toArray (Exit.then (fun a w => CW P y Q a w) Q) l a w):LW P ops (Exit.then (fun a w => CW P (Code.seq (Code.region id l.toArray false) y) Q a w) Q2) [] a w:=wnil (tNo (wSq (wreg h)))
theorem wk2 {id id2:Nat} {l:List Oper} {y c2:Code} {a:Act} (h:LW P l.toArray (Exit.then (fun a w => CW P c2 (Exit.inBlock id2 (Exit.then (fun a w => CW P y Q a w) Q)) a w) (Exit.inBlock id2 (Exit.then (fun a w => CW P y Q a w) Q))) l a w):CW P .skip (Exit.then (fun a w => CW P (Code.seq (Code.block id2 (Code.seq (Code.region id l.toArray false) c2)) y) Q a w) Q2) a w:=wSk (tNo (wSq (wBk (wSq (wreg h)))))
theorem nSm {V:Value} {Tl:Value → List Res → Prop} (h:d = e) (hT:Tl V []):∃ v r,act n (upd f d V) = act n (upd f e v) ∧ Tl v r ∧ New w r w:=⟨V,[],by rw [h],hT,New.same _⟩
abbrev iSv (v:Value):List Value → Tell:=fun _ => Is v
theorem inNo {A B:Prop} {o:Oper} {a:Act} (hg:o.guard = none) (h:A):(Region.wanted o (yielded ops a.tmps) = true ∧ A) ∨ B:=.inl ⟨wNo hg,h⟩
variable {ds:List Nat} {nd sr:List (List Nat)} {pu:List Nat} {Bl:List (Nat × List Value × TypeId)} {T:Nat → List Value → Tell} {R0:List Res} {k i:Nat} {o:Oper} {l:List Oper}
theorem stC (hp:pu.contains i = false) (h:StepOk P ops n f ds nd sr Bl T w0 R0 i o) (t:Steps P ops n f ds nd sr pu Bl T w0 R0 k (i + 1) l):Steps P ops n f ds nd sr pu Bl T w0 R0 (k + 1) i (o :: l):=stepsCons hp h t
theorem stT (hp:pu.contains i = false) (h:∀ {Q:Exit → Act → World → Prop} {f':Nat → Value} {w':World} {ρ : Nat → List Res} {S:List Res},(∀ j d,(nd.getD i []).contains j = true → ds[j]? = some d → T j ((sr.getD j []).map fun l => f' (ds.getD l 0)) (f' d) (ρ j)) → Sep w0 (R0 ++ ((nd.getD i []).flatMap ρ ++ S)) w' →
  (Region.wanted o (yielded ops (act n f').tmps) = true ∧ OW P o (act n f') w' (fun a'' w'' => ∃ v r,a'' = act n (upd f' (ds.getD i 0) v) ∧ T i ((sr.getD i []).map fun l => f' (ds.getD l 0)) v r ∧ New w' r w'') Q) ∨
  (Region.wanted o (yielded ops (act n f').tmps) = false ∧ T i ((sr.getD i []).map fun l => f' (ds.getD l 0)) undef [])) (t:Steps P ops n f ds nd sr pu Bl T w0 R0 k (i + 1) l):Steps P ops n f ds nd sr pu Bl T w0 R0 (k + 1) i (o :: l):=stepsCons hp (fun _ _ _ _ _ _ hT hS _ => h hT hS) t
theorem stH (hp:pu.contains i = false) (h:∀ {Q:Exit → Act → World → Prop} {f':Nat → Value} {w':World} {ρ : Nat → List Res} {S:List Res},(∀ d,ds.contains d = false → f' d = f d) → Sep w0 (R0 ++ ((nd.getD i []).flatMap ρ ++ S)) w' →
  (Region.wanted o (yielded ops (act n f').tmps) = true ∧ OW P o (act n f') w' (fun a'' w'' => ∃ v r,a'' = act n (upd f' (ds.getD i 0) v) ∧ T i ((sr.getD i []).map fun l => f' (ds.getD l 0)) v r ∧ New w' r w'') Q) ∨
  (Region.wanted o (yielded ops (act n f').tmps) = false ∧ T i ((sr.getD i []).map fun l => f' (ds.getD l 0)) undef [])) (t:Steps P ops n f ds nd sr pu Bl T w0 R0 k (i + 1) l):Steps P ops n f ds nd sr pu Bl T w0 R0 (k + 1) i (o :: l):=stepsCons hp (fun _ _ _ _ _ ho _ hS _ => h ho hS) t
theorem stM (hp:pu.contains i = false) (h1:Nat.blt e n = true) (hc:ds.contains e = false) (hv:f e = v) (hd:ds.getD i 0 = d) (hT:∀ us,T i us v []) (k2:Steps P ops n f ds nd sr pu Bl T w0 R0 k (i + 1) l):Steps P ops n f ds nd sr pu Bl T w0 R0 (k + 1) i ({ dst:=some d,op:=.move (.tmp e),type:=t,pos:=ps,after:=af,guard:=none } :: l) :=
  stepsCons hp (fun _ f' w' _ _ ho _ _ _ => .inl ⟨wNo rfl,omove rfl rfl (ev h1 ((ho e hc).trans hv)) ⟨v,[],by rw [hd],hT _,New.same _⟩⟩) k2
end
open Go.RowKit
def Zr (w:World) (b:Bool) (p:Option Addr) (n c:Nat) (z:Int) (k:Nat):Prop := ∃ xs,Sl w p n c xs ∧ zv b (val xs) = z ∧ n ≤ k
theorem llv_val {w:World} {p:Option Addr} {n c:Nat} {xs:List Nat} (h:Sl w p n c xs) {k:Nat} (hn:n ≤ k):ll (val xs) ≤ k:=by
  have:=val_ll h.lims
  rw [h.len] at this
  omega
theorem llv_mul {a b i j k:Nat} (ha:ll a ≤ i) (hb:ll b ≤ j) (h:i + j ≤ k):ll (a * b) ≤ k:=by have:=ll_mul a b; omega
theorem llv_add {a b i k:Nat} (ha:ll a ≤ i) (hb:ll b ≤ i) (h:i + 1 ≤ k):ll (a + b) ≤ k:=by have:=ll_add ha hb; omega
theorem llv_le {a b k:Nat} (h:a ≤ b) (hb:ll b ≤ k):ll a ≤ k:=Nat.le_trans (ll_mono h) hb
def Wd (z:Int) (k:Nat):Prop:=ll z.natAbs ≤ k
theorem Zr.mono {w:World} {b:Bool} {p:Option Addr} {n c k l:Nat} {z:Int} (h:Zr w b p n c z k) (hk:k ≤ l):Zr w b p n c z l:=by
  obtain ⟨xs,h1,h2,h3⟩:=h; exact ⟨xs,h1,h2,Nat.le_trans h3 hk⟩
theorem Zr.on {w w':World} {b:Bool} {p:Option Addr} {n c k B:Nat} {z:Int} (h:Zr w b p n c z k) (hb:Below B w w') (hB:w.heap.size ≤ B):Zr w' b p n c z k:=by
  obtain ⟨xs,h1,h2,h3⟩:=h; exact ⟨xs,h1.below hb hB,h2,h3⟩
theorem Zr.at {w w':World} {R:List Res} {b:Bool} {p:Option Addr} {n c k:Nat} {z:Int} (h:Zr w b p n c z k) (hS:Sep w R w'):Zr w' b p n c z k:=h.on hS.below (Nat.le_refl _)
theorem Sl.zr {w:World} {p:Option Addr} {n c k:Nat} {z:Int} (h:Sl w p n c (lim z.natAbs)) (hk:Wd z k):Zr w (ng z) p n c z k :=
  ⟨_,h,by rw [vLm,zv_ng],by rw [h.lln]; exact hk⟩
theorem Zr.wd {w:World} {b:Bool} {p:Option Addr} {n c k:Nat} {z:Int} (h:Zr w b p n c z k):Wd z k:=by
  obtain ⟨xs,h1,rfl,h3⟩:=h
  unfold Wd; rw [natAbs_zv]
  have:=llv_val h1 h3
  exact this
theorem Zr.nil (w:World):Zr w false none 0 0 0 0:=⟨[],Sl.nil w,rfl,Nat.le_refl _⟩
theorem Wd.mono {z:Int} {k l:Nat} (h:Wd z k) (hk:k ≤ l):Wd z l:=Nat.le_trans h hk
theorem Wd.abs {z y:Int} {k:Nat} (h:Wd z k) (he:y.natAbs ≤ z.natAbs):Wd y k:=llv_le he h
theorem Wd.add {x y z:Int} {k l m:Nat} (hx:Wd x k) (hy:Wd y l) (hz:Hid (x + y = z)) (h:max k l + 1 ≤ m):Wd z m:=by
  have hz':=hz.out; subst hz'
  have h1:(x + y).natAbs ≤ x.natAbs + y.natAbs:=by omega
  exact llv_le h1 (llv_add (i:=max k l) (Nat.le_trans hx (Nat.le_max_left _ _)) (Nat.le_trans hy (Nat.le_max_right _ _)) h)
theorem Wd.sub {x y z:Int} {k l m:Nat} (hx:Wd x k) (hy:Wd y l) (hz:Hid (x - y = z)) (h:max k l + 1 ≤ m):Wd z m:=by
  have hz':=hz.out; subst hz'
  have h1:(x - y).natAbs ≤ x.natAbs + y.natAbs:=by omega
  exact llv_le h1 (llv_add (i:=max k l) (Nat.le_trans hx (Nat.le_max_left _ _)) (Nat.le_trans hy (Nat.le_max_right _ _)) h)
theorem Wd.mul {x y z:Int} {k l m:Nat} (hx:Wd x k) (hy:Wd y l) (hz:Hid (x * y = z)) (h:k + l ≤ m):Wd z m:=by
  have hz':=hz.out; subst hz'
  unfold Wd at *; rw [Int.natAbs_mul]
  exact llv_mul hx hy h
theorem Wd.tdiv {x y z:Int} {k:Nat} (hx:Wd x k) (hz:Hid (x.tdiv y = z)):Wd z k:=by
  have hz':=hz.out; subst hz'
  refine hx.abs ?_
  rw [Int.natAbs_tdiv]; exact Nat.div_le_self _ _
theorem Wd.tmod {x y z:Int} {k:Nat} (hx:Wd x k) (hz:Hid (x.tmod y = z)):Wd z k:=by
  have hz':=hz.out; subst hz'
  refine hx.abs ?_
  rw [Int.natAbs_tmod]; exact Nat.mod_le _ _
theorem Wd.ediv {x y z:Int} {k:Nat} (hx:Wd x k) (hz:Hid (x / y = z)):Wd z k:=by
  have hz':=hz.out; subst hz'
  exact hx.abs (Int.natAbs_ediv_le_natAbs x y)
theorem Wd.emod {x y z:Int} {l:Nat} (hy:Wd y l) (h0:y ≠ 0) (hz:Hid (x % y = z)):Wd z l:=by
  have hz':=hz.out; subst hz'
  refine hy.abs ?_
  have h1:=Int.emod_nonneg x h0
  have h2:=Int.emod_lt x h0
  omega
theorem Wd.neg {x z:Int} {k:Nat} (hx:Wd x k) (hz:Hid (-x = z)):Wd z k:=by
  have hz':=hz.out; subst hz'
  exact hx.abs (by omega)
theorem Wd.nabs {x z:Int} {k:Nat} (hx:Wd x k) (hz:Hid ((x.natAbs:Int) = z)):Wd z k:=by
  have hz':=hz.out; subst hz'
  exact hx.abs (by omega)
theorem Wd.same {x z:Int} {k:Nat} (hx:Wd x k) (hz:Hid (x = z)):Wd z k:=by
  have hz':=hz.out; subst hz'; exact hx
theorem Wd.gcd {x y z:Int} {k l m:Nat} (hx:Wd x k) (hy:Wd y l) (hz:Hid ((Int.gcd x y:Int) = z)) (h:max k l ≤ m):Wd z m:=by
 have hz':=hz.out; subst hz'
 by_cases h0:x = 0
 ·subst h0
  exact (hy.mono (Nat.le_trans (Nat.le_max_right k l) h)).abs (by simp)
 refine (hx.mono (Nat.le_trans (Nat.le_max_left k l) h)).abs ?_
 rw [Int.natAbs_natCast]
 exact Nat.le_of_dvd (by omega) (Nat.gcd_dvd_left _ _)
theorem Wd.i64 {z:Int} (h1 : -9223372036854775808 ≤ z) (h2:z ≤ 9223372036854775807):Wd z 2:=ll_le (by omega)
theorem wzadd {z:Int} {b b2:Bool} {p q:Option Addr} {n m c d:Nat} {x y:Int} {w:World} (hx:Zr w b p n c x 549755813888) (hy:Zr w b2 q m d y 549755813888) (hz:Hid (x + y = z)) :
  Calls Tryz.prog 34 #[.agg #[.bool b,.slice p n c],.agg #[.bool b2,.slice q m d]] w (Ret (Zt z) w):=by
 obtain ⟨xs,h1,rfl,h2⟩:=hx
 obtain ⟨ys,h3,rfl,h4⟩:=hy
 exact (zadd_of h1 h3 (by omega) (by omega) hz).mono RetZ.u
theorem wzmul {z:Int} {b b2:Bool} {p q:Option Addr} {n m c d:Nat} {x y:Int} {w:World} (hx:Zr w b p n c x 549755813888) (hy:Zr w b2 q m d y 549755813888) (hz:Hid (x * y = z)) :
  Calls Tryz.prog 35 #[.agg #[.bool b,.slice p n c],.agg #[.bool b2,.slice q m d]] w (Ret (Zt z) w):=by
 obtain ⟨xs,h1,rfl,h2⟩:=hx
 obtain ⟨ys,h3,rfl,h4⟩:=hy
 exact (zmul_of h1 h3 (by omega) (by omega) hz).mono RetZ.u
theorem wzabs {z:Int} {b:Bool} {p:Option Addr} {n c:Nat} {x:Int} {w:World} (hx:Zr w b p n c x 549755813888) (hz:Hid ((x.natAbs:Int) = z)) :
  Calls Tryz.prog 76 #[.agg #[.bool b,.slice p n c]] w (Ret (Zt z) w):=by
 obtain ⟨xs,h1,rfl,h2⟩:=hx
 exact (zabs_of h1 (by omega) hz).mono RetZ.u
theorem wzsign {s:Int} {b:Bool} {p:Option Addr} {n c:Nat} {x:Int} {w:World} (hx:Zr w b p n c x 549755813888) (hs:Hid (x.sign = s)) :
  Calls Tryz.prog 67 #[.agg #[.bool b,.slice p n c]] w (Ret (Is (.int .i64 s)) w):=by
 obtain ⟨xs,h1,rfl,h2⟩:=hx
 exact (zsign_of h1 (by omega) hs.out.symm).mono RetInt.u
theorem wzcmp {s:Int} {b b2:Bool} {p q:Option Addr} {n m c d:Nat} {x y:Int} {w:World} (hx:Zr w b p n c x 549755813888) (hy:Zr w b2 q m d y 549755813888) (hs:Hid (cmpZ x y = s)) :
  Calls Tryz.prog 70 #[.agg #[.bool b,.slice p n c],.agg #[.bool b2,.slice q m d]] w (Ret (Is (.int .i64 s)) w):=by
 obtain ⟨xs,h1,rfl,h2⟩:=hx
 obtain ⟨ys,h3,rfl,h4⟩:=hy
 exact (zcmp_of h1 h3 (by omega) (by omega) hs).mono RetInt.u
theorem wqadd {z:Int} {b b2:Bool} {p q:Option Addr} {n m c d:Nat} {x y:Int} {w:World} (hx:Zr w b p n c x 549755813888) (hy:Zr w b2 q m d y 549755813888) (hz:Hid (x + y = z)) :
  Calls Tryz.prog 92 #[.agg #[.bool b,.slice p n c],.agg #[.bool b2,.slice q m d]] w (Ret (Zt z) w):=by
 obtain ⟨xs,h1,rfl,h2⟩:=hx
 obtain ⟨ys,h3,rfl,h4⟩:=hy
 exact (qadd_of h1 h3 (by omega) (by omega) hz).mono RetZ.u
theorem wqmul {z:Int} {b b2:Bool} {p q:Option Addr} {n m c d:Nat} {x y:Int} {w:World} (hx:Zr w b p n c x 549755813888) (hy:Zr w b2 q m d y 549755813888) (hz:Hid (x * y = z)) :
  Calls Tryz.prog 95 #[.agg #[.bool b,.slice p n c],.agg #[.bool b2,.slice q m d]] w (Ret (Zt z) w):=by
 obtain ⟨xs,h1,rfl,h2⟩:=hx
 obtain ⟨ys,h3,rfl,h4⟩:=hy
 exact (hz.out ▸ qmul_any h1 h3 (by omega) (by omega)).mono RetZ.u
theorem wqneg {z:Int} {b:Bool} {p:Option Addr} {n c:Nat} {x:Int} {w:World} (hx:Zr w b p n c x 549755813888) (hz:Hid (-x = z)) :
  Calls Tryz.prog 93 #[.agg #[.bool b,.slice p n c]] w (Ret (Zt z) w):=by
 obtain ⟨xs,h1,rfl,h2⟩:=hx
 exact (hz.out ▸ qneg_any h1 (by omega)).mono RetZ.u
theorem wqabs {z:Int} {b:Bool} {p:Option Addr} {n c:Nat} {x:Int} {w:World} (hx:Zr w b p n c x 549755813888) (hz:Hid ((x.natAbs:Int) = z)) :
  Calls Tryz.prog 157 #[.agg #[.bool b,.slice p n c]] w (Ret (Zt z) w):=by
 obtain ⟨xs,h1,rfl,h2⟩:=hx
 exact (hz.out ▸ qabs_any h1 (by omega)).mono RetZ.u
theorem wqnorm {z:Int} {b:Bool} {p:Option Addr} {n c:Nat} {x:Int} {w:World} (hx:Zr w b p n c x 549755813888) (hz:Hid (x = z)) :
  Calls Tryz.prog 115 #[.agg #[.bool b,.slice p n c]] w (Ret (Zt z) w):=by
 obtain ⟨xs,h1,rfl,h2⟩:=hx
 exact (qnorm_of h1 (by omega) hz).mono RetZ.u
theorem wqsign {s:Int} {b:Bool} {p:Option Addr} {n c:Nat} {x:Int} {w:World} (hx:Zr w b p n c x 549755813888) (hs:Hid (x.sign = s)) :
  Calls Tryz.prog 45 #[.agg #[.bool b,.slice p n c]] w (Ret (Is (.int .i64 s)) w):=by
 obtain ⟨xs,h1,rfl,h2⟩:=hx
 exact (qsign_of h1 hs.out.symm).mono RetInt.u
theorem wqcmp {s:Int} {b b2:Bool} {p q:Option Addr} {n m c d:Nat} {x y:Int} {w:World} (hx:Zr w b p n c x 549755813888) (hy:Zr w b2 q m d y 549755813888) (hs:Hid (cmpZ x y = s)) :
  Calls Tryz.prog 14 #[.agg #[.bool b,.slice p n c],.agg #[.bool b2,.slice q m d]] w (Ret (Is (.int .i64 s)) w):=by
 obtain ⟨xs,h1,rfl,h2⟩:=hx
 obtain ⟨ys,h3,rfl,h4⟩:=hy
 exact (qcmp_of h1 h3 (by omega) (by omega) hs).mono RetInt.u
theorem wzeuclid {z r:Int} {b b2:Bool} {p q:Option Addr} {n m c d:Nat} {x y:Int} {w:World} (hx:Zr w b p n c x 549755813888) (hy:Zr w b2 q m d y 549755813888) (h0:y ≠ 0) (hz:Hid (x / y = z)) (hr:Hid (x % y = r)) :
  Calls Tryz.prog 108 #[.agg #[.bool b,.slice p n c],.agg #[.bool b2,.slice q m d]] w (Ret (ZZEt z r 0) w):=by
 obtain ⟨xs,h1,rfl,h2⟩:=hx
 obtain ⟨ys,h3,rfl,h4⟩:=hy
 exact (zeuclid_of h1 h3 (by omega) (by omega) (fun e => h0 (by rw [e,zv_zero])) hz hr).mono RetZZE.u
theorem wqgcd {z:Int} {b b2:Bool} {p q:Option Addr} {n m c d:Nat} {x y:Int} {w:World} (hx:Zr w b p n c x 549755813888) (hy:Zr w b2 q m d y 549755813888) (hz:Hid ((Int.gcd x y:Int) = z)) :
  Calls Tryz.prog 97 #[.agg #[.bool b,.slice p n c],.agg #[.bool b2,.slice q m d]] w (Ret (Zt z) w):=by
 obtain ⟨xs,h1,rfl,h2⟩:=hx
 obtain ⟨ys,h3,rfl,h4⟩:=hy
 exact (hz.out ▸ qgcd_any h1 h3 (by omega) (by omega)).mono RetZ.u
theorem wqexact {z:Int} {b b2:Bool} {p q:Option Addr} {n m c d:Nat} {x y:Int} {w:World} (hx:Zr w b p n c x 549755813888) (hy:Zr w b2 q m d y 549755813888) (h0:y ≠ 0) (h5:x.tmod y = 0) (hz:Hid (x.tdiv y = z)) :
  Calls Tryz.prog 98 #[.agg #[.bool b,.slice p n c],.agg #[.bool b2,.slice q m d]] w (Ret (ZBt z true) w):=by
 obtain ⟨xs,h1,rfl,h2⟩:=hx
 obtain ⟨ys,h3,rfl,h4⟩:=hy
 exact (qexact_yes (R:=0) h1 h3 (by omega) (by omega) (fun e => h0 (by rw [e,zv_zero])) hz h5 rfl).mono RetZB.u
theorem wzof {z:Int} {w:World} (h1 : -9223372036854775808 ≤ z) (h2:z ≤ 9223372036854775807) :
  Calls Tryz.prog 33 #[.int .i64 z] w (Ret (Zt z) w):=(zof_any h1 h2).mono RetZ.u
theorem wqof {z:Int} {w:World} (h1 : -9223372036854775808 ≤ z) (h2:z ≤ 9223372036854775807) :
  Calls Tryz.prog 7 #[.int .i64 z] w (Ret (Zt z) w):=(qof_any h1 h2).mono RetZ.u
theorem Zt.m {z:Int} {w:World} (e:Ending) (w':World) (h:Ret (Zt z) w e w'):Ret (Zm z) w e w':=by
  obtain ⟨_,_,rfl,⟨p,n,c,rfl,rfl⟩,hN⟩:=h
  refine ⟨_,_,rfl,⟨p,n,c,rfl,rfl⟩,New.one hN.below ?_ (fun g hg => hN.high (.row p n c (lim z.natAbs)) List.mem_cons_self g hg)⟩
  exact (show Fr 0 w' p n c (lim z.natAbs) from hN.holds (.row p n c (lim z.natAbs)) List.mem_cons_self)
theorem wrap_succ {k:Nat} (h:k < 4611686018427387904):IntKind.i64.wrap ((k:Int) + 1) = ((k + 1:Nat):Int):=by
  rw [IntWalk.i64_in _ (by omega)]; rfl
theorem Wd.ofN {N k:Nat} (hk:ll N ≤ k):Wd (N:Int) k:=by unfold Wd; rwa [Int.natAbs_natCast]
def Cpt (b:Bool) (n:Nat) (xs:List Nat):Tell:=fun v r => ∃ p c,v = .agg #[.bool b,.slice p n c] ∧ r = [.row p n c xs]
theorem wqcopy {b:Bool} {p:Option Addr} {n c:Nat} {xs:List Nat} {w:World} (hx:Sl w p n c xs) (hn:n ≤ 17592186044416) :
  Calls Tryz.prog 55 #[.agg #[.bool b,.slice p n c]] w (Ret (Cpt b n xs) w) :=
 (qcopy_any hx hn).mono fun e w' h => by
  obtain ⟨p,c,rfl,hf,hb⟩:=h
  exact ⟨_,_,rfl,⟨p,c,rfl,rfl⟩,New.row hb hf⟩
open Go.RowKit
theorem lcm_eq {x y a b g q z:Int} (h:Int.gcd x y ≠ 0) (hg:Hid ((Int.gcd x y:Int) = g)) (ha:Hid ((x.natAbs:Int) = a)) (hq:Hid (a.tdiv g = q)) (hb:Hid ((y.natAbs:Int) = b)) (hz:Hid (q * b = z)):z = (Int.lcm x y:Int):=by
  rw [← hz.out, ← hq.out, ← hb.out, ← ha.out, ← hg.out]
  unfold Int.gcd Int.lcm Nat.lcm
  obtain ⟨k,hk⟩:=Nat.gcd_dvd_left x.natAbs y.natAbs
  have hp:0 < Nat.gcd x.natAbs y.natAbs:=Nat.pos_of_ne_zero h
  generalize Nat.gcd x.natAbs y.natAbs = g at *
  rw [hk,Nat.mul_assoc,Nat.mul_div_cancel_left _ hp,Int.natCast_mul,Int.mul_tdiv_cancel_left _ (by omega)]
  rfl
theorem lcm_dvd {x y a g:Int} (hg:Hid ((Int.gcd x y:Int) = g)) (ha:Hid ((x.natAbs:Int) = a)):a.tmod g = 0:=by
  rw [← ha.out, ← hg.out]
  obtain ⟨k,hk⟩:=Nat.gcd_dvd_left x.natAbs y.natAbs
  unfold Int.gcd
  generalize Nat.gcd x.natAbs y.natAbs = g at *
  rw [hk,Int.natCast_mul,Int.mul_tmod_right]
theorem sign_ne {z s:Int} (h:Hid (z.sign = s)) (hz:z ≠ 0):(s == 0) = false:=by
  rw [← h.out]; have:=sign_cases z; simp; omega
theorem sign_eq {z s:Int} (h:Hid (z.sign = s)) (hz:z = 0):(s == 0) = true:=by
  rw [← h.out,hz]; rfl
open Go.RowKit
theorem wtrim {p:Option Addr} {n c:Nat} {xs:List Nat} {w:World} (hs:Sl w p n c xs) :
  Calls Tryz.prog 82 #[.slice p n c] w (Ret (Is (.slice p (ll (val xs)) c)) w) :=
 (trim_any hs).mono fun e w' h => by
  obtain ⟨m,rfl,hm,_,rfl⟩:=h
  have e:m = ll (val xs):=by rw [← hm.len,length_lim]
  subst e
  exact ⟨_,_,rfl,isI,New.same _⟩
theorem Sl.trimmed {p:Option Addr} {n c:Nat} {xs:List Nat} {w:World} (hs:Sl w p n c xs):Sl w p (ll (val xs)) c (lim (val xs)):=by
  have h:=nrm_eq hs.lims
  have h2:tl xs xs.length = ll (val xs):=tl_ll hs.lims
  rw [← h,h2]
  exact hs.take (by rw [← h2, ← hs.len]; exact tl_le _ _)
theorem wuint64_0 {p:Option Addr} {n c:Nat} {xs:List Nat} {w:World} (hx:Sl w p n c xs) (h0:val xs = 0) :
  Calls Tryz.prog 109 #[.slice p n c] w (Ret (Is (.tuple #[.int .u64 ((val xs:Nat):Int),.bool true])) w):=by
 have hN:=hx.trimmed
 have hL0:=hN.lim1 0
 have hL1:=hN.lim1 1
 have hS:=Sep.init w
 refine went Tryz.func109 rfl (n:=28) rfl rfl ?_
 refine wSq (wreg (wl rfl (oassign (v:=.int .u64 0) rfl rfl evc ?_)))
 refine wl rfl (oassign (v:=.bool false) rfl rfl evc ?_)
 refine wnil (tNo (wSq (wreg (wl rfl (omove (v:=.slice p n c) rfl rfl (ev rfl rfl) ?_)))))
 refine wl rfl (oCl rfl rfl Tryz.call82 rfl (wtrim hx) (ar1 (ev rfl rfl)) ?_)
 rintro _ w1 ⟨_,_,rfl,⟨rfl,rfl⟩,hN⟩
 refine ⟨_,rfl,?_⟩
 replace hS:=hS.news hN; clear hN
 refine wl rfl (oassign (v:=.slice p (ll (val xs)) c) rfl rfl (ev rfl rfl) ?_)
 refine wnil (tNo (wSq (wSq (wreg (wl rfl (omove (v:=.slice p (ll (val xs)) c) rfl rfl (ev rfl rfl) ?_))))))
 refine wl rfl (olen rfl rfl rfl Tryz.runUnderlying26 (p:=p) (k:=(ll (val xs))) (m:=c) (ev rfl rfl) ?_)
 refine wnil (tNo (wBk (wSq (wreg (wl rfl (obin (u:=.int .i64 ((((ll (val xs)):Nat):Int))) (v:=.int .i64 0) (z:=.bool true) rfl rfl (ev rfl rfl) evc (bEq (eqT (by rw [h0]; rfl))) ?_))))))
 refine wl rfl (oassign (v:=.bool true) rfl rfl (ev rfl rfl) ?_)
 refine wnil (tNo ?_)
 refine wT (ev rfl rfl) ?_
 refine wSq (wreg (wl rfl (oassign (v:=.int .u64 0) rfl rfl evc ?_)))
 refine wl rfl (oassign (v:=.bool true) rfl rfl evc ?_)
 refine wnil (tNo ?_)
 refine wLv ?_
 refine blkR ?_
 refine thenR ?_
 refine wret2 Tryz.results109 (tlT (v:=.int .u64 0) rfl rfl) (tlT (v:=.bool true) rfl rfl) ?_
 exact ⟨_,_,rfl,⟨by rw [h0]; rfl,rfl⟩,hS.new0⟩
theorem wuint64_1 {p:Option Addr} {n c:Nat} {xs:List Nat} {w:World} (hx:Sl w p n c xs) (h1:ll (val xs) = 1) :
  Calls Tryz.prog 109 #[.slice p n c] w (Ret (Is (.tuple #[.int .u64 ((val xs:Nat):Int),.bool true])) w):=by
 have hN:=hx.trimmed
 have hL0:=hN.lim1 0
 have hL1:=hN.lim1 1
 have hS:=Sep.init w
 refine went Tryz.func109 rfl (n:=28) rfl rfl ?_
 refine wSq (wreg (wl rfl (oassign (v:=.int .u64 0) rfl rfl evc ?_)))
 refine wl rfl (oassign (v:=.bool false) rfl rfl evc ?_)
 refine wnil (tNo (wSq (wreg (wl rfl (omove (v:=.slice p n c) rfl rfl (ev rfl rfl) ?_)))))
 refine wl rfl (oCl rfl rfl Tryz.call82 rfl (wtrim hx) (ar1 (ev rfl rfl)) ?_)
 rintro _ w1 ⟨_,_,rfl,⟨rfl,rfl⟩,hN⟩
 refine ⟨_,rfl,?_⟩
 replace hS:=hS.news hN; clear hN
 refine wl rfl (oassign (v:=.slice p (ll (val xs)) c) rfl rfl (ev rfl rfl) ?_)
 refine wnil (tNo (wSq (wSq (wreg (wl rfl (omove (v:=.slice p (ll (val xs)) c) rfl rfl (ev rfl rfl) ?_))))))
 refine wl rfl (olen rfl rfl rfl Tryz.runUnderlying26 (p:=p) (k:=(ll (val xs))) (m:=c) (ev rfl rfl) ?_)
 refine wnil (tNo (wBk (wSq (wreg (wl rfl (obin (u:=.int .i64 ((((ll (val xs)):Nat):Int))) (v:=.int .i64 0) (z:=.bool false) rfl rfl (ev rfl rfl) evc (bEq (eqF (by omega))) ?_))))))
 refine wl rfl (oassign (v:=.bool false) rfl rfl (ev rfl rfl) ?_)
 refine wnil (tNo ?_)
 refine wF (ev rfl rfl) ?_
 refine wSq (wreg (wl rfl (obin (u:=.int .i64 ((((ll (val xs)):Nat):Int))) (v:=.int .i64 1) (z:=.bool true) rfl rfl (ev rfl rfl) evc (bEq (eqT (by omega))) ?_)))
 refine wl rfl (oassign (v:=.bool true) rfl rfl (ev rfl rfl) ?_)
 refine wnil (tNo ?_)
 refine wT (ev rfl rfl) ?_
 refine wSq (wreg (wl rfl (omove (v:=.slice p (ll (val xs)) c) rfl rfl (ev rfl rfl) ?_)))
 obtain ⟨bb0,off0,hp0,hc0⟩:=hN.cell 0 (by omega)
 refine wl rfl (oIx (p:=p) (g:=bb0) (off:=off0) (m:=(ll (val xs))) (k:=0) (j:=off0) rfl rfl Tryz.runUnderlying26 Tryz.sizeOf63 (ev rfl rfl) (hp0) evc ((by omega)) (by simp) ?_)
 refine wl rfl (oLc (v:=.int .u32 (((nd (lim (val xs)) 0:Nat):Int))) one32 rfl rfl (ev (v:=.pointer (some ⟨bb0,off0,none⟩)) rfl rfl) ((below_cell hS.below).1 _ _ (World.block_lt_of_cell? w _ hc0) |>.trans hc0) ?_)
 refine wl rfl (oCv (u:=.int .u32 (((nd (lim (val xs)) 0:Nat):Int))) (v:=.int .u64 (((nd (lim (val xs)) 0:Nat):Int))) rfl rfl (ev rfl rfl) (cvI Tryz.runUnderlying63 Tryz.runUnderlying71 (wU6 (by omega) (by omega))) ?_)
 refine wl rfl (oassign (v:=.int .u64 (((nd (lim (val xs)) 0:Nat):Int))) rfl rfl (ev rfl rfl) ?_)
 refine wl rfl (oassign (v:=.bool true) rfl rfl evc ?_)
 refine wnil (tNo ?_)
 refine wLv ?_
 refine blkR ?_
 refine thenR ?_
 refine wret2 Tryz.results109 (tlT (v:=.int .u64 (((nd (lim (val xs)) 0:Nat):Int))) rfl rfl) (tlT (v:=.bool true) rfl rfl) ?_
 exact ⟨_,_,rfl,⟨by rw [lim1 h1],rfl⟩,hS.new0⟩
theorem wuint64_2 {p:Option Addr} {n c:Nat} {xs:List Nat} {w:World} (hx:Sl w p n c xs) (h2:ll (val xs) = 2) :
  Calls Tryz.prog 109 #[.slice p n c] w (Ret (Is (.tuple #[.int .u64 ((val xs:Nat):Int),.bool true])) w):=by
 have hN:=hx.trimmed
 have hL0:=hN.lim1 0
 have hL1:=hN.lim1 1
 have hS:=Sep.init w
 refine went Tryz.func109 rfl (n:=28) rfl rfl ?_
 refine wSq (wreg (wl rfl (oassign (v:=.int .u64 0) rfl rfl evc ?_)))
 refine wl rfl (oassign (v:=.bool false) rfl rfl evc ?_)
 refine wnil (tNo (wSq (wreg (wl rfl (omove (v:=.slice p n c) rfl rfl (ev rfl rfl) ?_)))))
 refine wl rfl (oCl rfl rfl Tryz.call82 rfl (wtrim hx) (ar1 (ev rfl rfl)) ?_)
 rintro _ w1 ⟨_,_,rfl,⟨rfl,rfl⟩,hN⟩
 refine ⟨_,rfl,?_⟩
 replace hS:=hS.news hN; clear hN
 refine wl rfl (oassign (v:=.slice p (ll (val xs)) c) rfl rfl (ev rfl rfl) ?_)
 refine wnil (tNo (wSq (wSq (wreg (wl rfl (omove (v:=.slice p (ll (val xs)) c) rfl rfl (ev rfl rfl) ?_))))))
 refine wl rfl (olen rfl rfl rfl Tryz.runUnderlying26 (p:=p) (k:=(ll (val xs))) (m:=c) (ev rfl rfl) ?_)
 refine wnil (tNo (wBk (wSq (wreg (wl rfl (obin (u:=.int .i64 ((((ll (val xs)):Nat):Int))) (v:=.int .i64 0) (z:=.bool false) rfl rfl (ev rfl rfl) evc (bEq (eqF (by omega))) ?_))))))
 refine wl rfl (oassign (v:=.bool false) rfl rfl (ev rfl rfl) ?_)
 refine wnil (tNo ?_)
 refine wF (ev rfl rfl) ?_
 refine wSq (wreg (wl rfl (obin (u:=.int .i64 ((((ll (val xs)):Nat):Int))) (v:=.int .i64 1) (z:=.bool false) rfl rfl (ev rfl rfl) evc (bEq (eqF (by omega))) ?_)))
 refine wl rfl (oassign (v:=.bool false) rfl rfl (ev rfl rfl) ?_)
 refine wnil (tNo ?_)
 refine wF (ev rfl rfl) ?_
 refine wSq (wreg (wl rfl (obin (u:=.int .i64 ((((ll (val xs)):Nat):Int))) (v:=.int .i64 2) (z:=.bool true) rfl rfl (ev rfl rfl) evc (bEq (eqT (by omega))) ?_)))
 refine wl rfl (oassign (v:=.bool true) rfl rfl (ev rfl rfl) ?_)
 refine wnil (tNo ?_)
 refine wT (ev rfl rfl) ?_
 refine wSq ?_
 obtain ⟨bb1,off1,hp1,hc1⟩:=hN.cell 1 (by omega)
 obtain ⟨bb0,off0,hp0,hc0⟩:=hN.cell 0 (by omega)
 refine wSg 12 [18,19,20,21,22,23,24,25,26,27,2,3] [[],[0],[1,0],[2,0,1],[3,0,1,2],[],[5],[6,5],[7,5,6],[4,8,0,1,2,3,5,6,7],[9,0,1,2,3,4,5,6,7,8],[0,1,2,3,4,5,6,7,8,9,10]] [[],[],[],[],[],[],[],[],[],[],[],[]] [] [] (fun i => ([fun _ => Is (.slice p (ll (val xs)) c),fun _ => Is (.pointer (some ⟨bb1,(off1 + 1),none⟩)),fun _ => Is (.int .u32 (((nd (lim (val xs)) 1:Nat):Int))),fun _ => Is (.int .u64 (((nd (lim (val xs)) 1:Nat):Int))),fun _ => Is (.int .u64 (((nd (lim (val xs)) 1 * 4294967296:Nat):Int))),fun _ => Is (.slice p (ll (val xs)) c),fun _ => Is (.pointer (some ⟨bb0,off0,none⟩)),fun _ => Is (.int .u32 (((nd (lim (val xs)) 0:Nat):Int))),fun _ => Is (.int .u64 (((nd (lim (val xs)) 0:Nat):Int))),fun _ => Is (.int .u64 (((nd (lim (val xs)) 1 * 4294967296 + nd (lim (val xs)) 0:Nat):Int))),fun _ => Is (.int .u64 (((nd (lim (val xs)) 1 * 4294967296 + nd (lim (val xs)) 0:Nat):Int))),fun _ => Is (.bool true)]:List (List Value → Tell)).getD i (fun _ _ _ => False)) (hNi) (fun d _ _ _ _ h => (by cases d <;> exact h)) (by kernel_rfl) (by kernel_rfl) (by kernel_rfl) hS ?_ ?_
 ·
  refine stepsCons rfl (fun Q f' w' ρ S ho hT hS hB => ?_) ?_
  ·exact .inl ⟨wNo rfl,omove (v:=.slice p (ll (val xs)) c) rfl rfl (ev rfl (ho 0 rfl)) ⟨_,_,rfl,isI,New.same _⟩⟩
  refine stepsCons rfl (fun Q f' w' ρ S ho hT hS hB => ?_) ?_
  ·obtain ⟨hv0,hr0⟩:=(hT 0 18 rfl rfl:(Is (.slice p (ll (val xs)) c)) _ _)
   obtain hS:=hS.flat1 hr0
   exact .inl ⟨wNo rfl,oIx (p:=p) (g:=bb1) (off:=off1) (m:=(ll (val xs))) (k:=1) (j:=(off1 + 1)) rfl rfl Tryz.runUnderlying26 Tryz.sizeOf63 (ev rfl hv0) (hp1) evc ((by omega)) (by simp) ⟨_,_,rfl,isI,New.same _⟩⟩
  refine stepsCons rfl (fun Q f' w' ρ S ho hT hS hB => ?_) ?_
  ·obtain ⟨hv1,hr1⟩:=(hT 1 19 rfl rfl:(Is (.pointer (some ⟨bb1,(off1 + 1),none⟩))) _ _)
   obtain hS:=hS.flat1 hr1
   exact .inl ⟨wNo rfl,oLc (v:=.int .u32 (((nd (lim (val xs)) 1:Nat):Int))) one32 rfl rfl (ev (v:=.pointer (some ⟨bb1,(off1 + 1),none⟩)) rfl hv1) ((below_cell hS.below).1 _ _ (World.block_lt_of_cell? w _ hc1) |>.trans hc1) ⟨_,_,rfl,isI,New.same _⟩⟩
  refine stepsCons rfl (fun Q f' w' ρ S ho hT hS hB => ?_) ?_
  ·obtain ⟨hv2,hr2⟩:=(hT 2 20 rfl rfl:(Is (.int .u32 (((nd (lim (val xs)) 1:Nat):Int)))) _ _)
   obtain hS:=hS.flat1 hr2
   exact .inl ⟨wNo rfl,oCv (u:=.int .u32 (((nd (lim (val xs)) 1:Nat):Int))) (v:=.int .u64 (((nd (lim (val xs)) 1:Nat):Int))) rfl rfl (ev rfl hv2) (cvI Tryz.runUnderlying63 Tryz.runUnderlying71 (wU6 (by omega) (by omega))) ⟨_,_,rfl,isI,New.same _⟩⟩
  refine stepsCons rfl (fun Q f' w' ρ S ho hT hS hB => ?_) ?_
  ·obtain ⟨hv3,hr3⟩:=(hT 3 21 rfl rfl:(Is (.int .u64 (((nd (lim (val xs)) 1:Nat):Int)))) _ _)
   obtain hS:=hS.flat1 hr3
   exact .inl ⟨wNo rfl,obin (u:=.int .u64 (((nd (lim (val xs)) 1:Nat):Int))) (v:=.int .u64 32) (z:=.int .u64 (((nd (lim (val xs)) 1 * 4294967296:Nat):Int))) rfl rfl (ev rfl hv3) evc (bin_shl (c:=((nd (lim (val xs)) 1 * 4294967296:Nat):Int)) (by omega) (by rw [show min (32:Int).toNat IntKind.u64.bits = 32 from rfl]; exact (congrArg IntKind.u64.wrap (by omega)).trans (wU6 (by omega) (by omega)))) ⟨_,_,rfl,isI,New.same _⟩⟩
  refine stepsCons rfl (fun Q f' w' ρ S ho hT hS hB => ?_) ?_
  ·exact .inl ⟨wNo rfl,omove (v:=.slice p (ll (val xs)) c) rfl rfl (ev rfl (ho 0 rfl)) ⟨_,_,rfl,isI,New.same _⟩⟩
  refine stepsCons rfl (fun Q f' w' ρ S ho hT hS hB => ?_) ?_
  ·obtain ⟨hv5,hr5⟩:=(hT 5 23 rfl rfl:(Is (.slice p (ll (val xs)) c)) _ _)
   obtain hS:=hS.flat1 hr5
   exact .inl ⟨wNo rfl,oIx (p:=p) (g:=bb0) (off:=off0) (m:=(ll (val xs))) (k:=0) (j:=off0) rfl rfl Tryz.runUnderlying26 Tryz.sizeOf63 (ev rfl hv5) (hp0) evc ((by omega)) (by simp) ⟨_,_,rfl,isI,New.same _⟩⟩
  refine stepsCons rfl (fun Q f' w' ρ S ho hT hS hB => ?_) ?_
  ·obtain ⟨hv6,hr6⟩:=(hT 6 24 rfl rfl:(Is (.pointer (some ⟨bb0,off0,none⟩))) _ _)
   obtain hS:=hS.flat1 hr6
   exact .inl ⟨wNo rfl,oLc (v:=.int .u32 (((nd (lim (val xs)) 0:Nat):Int))) one32 rfl rfl (ev (v:=.pointer (some ⟨bb0,off0,none⟩)) rfl hv6) ((below_cell hS.below).1 _ _ (World.block_lt_of_cell? w _ hc0) |>.trans hc0) ⟨_,_,rfl,isI,New.same _⟩⟩
  refine stepsCons rfl (fun Q f' w' ρ S ho hT hS hB => ?_) ?_
  ·obtain ⟨hv7,hr7⟩:=(hT 7 25 rfl rfl:(Is (.int .u32 (((nd (lim (val xs)) 0:Nat):Int)))) _ _)
   obtain hS:=hS.flat1 hr7
   exact .inl ⟨wNo rfl,oCv (u:=.int .u32 (((nd (lim (val xs)) 0:Nat):Int))) (v:=.int .u64 (((nd (lim (val xs)) 0:Nat):Int))) rfl rfl (ev rfl hv7) (cvI Tryz.runUnderlying63 Tryz.runUnderlying71 (wU6 (by omega) (by omega))) ⟨_,_,rfl,isI,New.same _⟩⟩
  refine stepsCons rfl (fun Q f' w' ρ S ho hT hS hB => ?_) ?_
  ·obtain ⟨hv4,hr4⟩:=(hT 4 22 rfl rfl:(Is (.int .u64 (((nd (lim (val xs)) 1 * 4294967296:Nat):Int)))) _ _)
   obtain ⟨hv8,hr8⟩:=(hT 8 26 rfl rfl:(Is (.int .u64 (((nd (lim (val xs)) 0:Nat):Int)))) _ _)
   obtain hS:=hS.flat2 hr4 hr8
   exact .inl ⟨wNo rfl,obin (u:=.int .u64 (((nd (lim (val xs)) 1 * 4294967296:Nat):Int))) (v:=.int .u64 (((nd (lim (val xs)) 0:Nat):Int))) (z:=.int .u64 (((nd (lim (val xs)) 1 * 4294967296 + nd (lim (val xs)) 0:Nat):Int))) rfl rfl (ev rfl hv4) (ev rfl hv8) (bin_or64 hL1 hL0) ⟨_,_,rfl,isI,New.same _⟩⟩
  refine stepsCons rfl (fun Q f' w' ρ S ho hT hS hB => ?_) ?_
  ·obtain ⟨hv9,hr9⟩:=(hT 9 27 rfl rfl:(Is (.int .u64 (((nd (lim (val xs)) 1 * 4294967296 + nd (lim (val xs)) 0:Nat):Int)))) _ _)
   obtain hS:=hS.flat1 hr9
   exact .inl ⟨wNo rfl,oassign (v:=.int .u64 (((nd (lim (val xs)) 1 * 4294967296 + nd (lim (val xs)) 0:Nat):Int))) rfl rfl (ev rfl hv9) ⟨_,_,rfl,isI,New.same _⟩⟩
  refine stepsCons rfl (fun Q f' w' ρ S ho hT hS hB => ?_) ?_
  ·exact .inl ⟨wNo rfl,oassign (v:=.bool true) rfl rfl evc ⟨_,_,rfl,isI,New.same _⟩⟩
  exact sNi
 intro vs ρ w2 f' hf hT hS
 obtain ⟨hv0,hr0⟩:=(hT 0 (by decide):(Is (.slice p (ll (val xs)) c)) _ _)
 obtain ⟨hv1,hr1⟩:=(hT 1 (by decide):(Is (.pointer (some ⟨bb1,(off1 + 1),none⟩))) _ _)
 obtain ⟨hv2,hr2⟩:=(hT 2 (by decide):(Is (.int .u32 (((nd (lim (val xs)) 1:Nat):Int)))) _ _)
 obtain ⟨hv3,hr3⟩:=(hT 3 (by decide):(Is (.int .u64 (((nd (lim (val xs)) 1:Nat):Int)))) _ _)
 obtain ⟨hv4,hr4⟩:=(hT 4 (by decide):(Is (.int .u64 (((nd (lim (val xs)) 1 * 4294967296:Nat):Int)))) _ _)
 obtain ⟨hv5,hr5⟩:=(hT 5 (by decide):(Is (.slice p (ll (val xs)) c)) _ _)
 obtain ⟨hv6,hr6⟩:=(hT 6 (by decide):(Is (.pointer (some ⟨bb0,off0,none⟩))) _ _)
 obtain ⟨hv7,hr7⟩:=(hT 7 (by decide):(Is (.int .u32 (((nd (lim (val xs)) 0:Nat):Int)))) _ _)
 obtain ⟨hv8,hr8⟩:=(hT 8 (by decide):(Is (.int .u64 (((nd (lim (val xs)) 0:Nat):Int)))) _ _)
 obtain ⟨hv9,hr9⟩:=(hT 9 (by decide):(Is (.int .u64 (((nd (lim (val xs)) 1 * 4294967296 + nd (lim (val xs)) 0:Nat):Int)))) _ _)
 obtain ⟨hv10,hr10⟩:=(hT 10 (by decide):(Is (.int .u64 (((nd (lim (val xs)) 1 * 4294967296 + nd (lim (val xs)) 0:Nat):Int)))) _ _)
 obtain ⟨hv11,hr11⟩:=(hT 11 (by decide):(Is (.bool true)) _ _)
 simp only [pool,if_true,hr0,hr1,hr2,hr3,hr4,hr5,hr6,hr7,hr8,hr9,hr10,hr11,List.nil_append,List.cons_append,List.append_nil] at hS
 simp only [layf,hv0,hv1,hv2,hv3,hv4,hv5,hv6,hv7,hv8,hv9,hv10,hv11] at hf
 subst hf; clear hT hv0 hv1 hv2 hv3 hv4 hv5 hv6 hv7 hv8 hv9 hv10 hv11 hr0 hr1 hr2 hr3 hr4 hr5 hr6 hr7 hr8 hr9 hr10 hr11
 refine wdone rfl ?_
 refine tNo ?_
 refine wLv ?_
 refine blkR ?_
 refine thenR ?_
 refine wret2 Tryz.results109 (tlT (v:=.int .u64 (((nd (lim (val xs)) 1 * 4294967296 + nd (lim (val xs)) 0:Nat):Int))) rfl rfl) (tlT (v:=.bool true) rfl rfl) ?_
 exact ⟨_,_,rfl,⟨by rw [lim_two h2],rfl⟩,hS.new0⟩
theorem wuint64 {p:Option Addr} {n c:Nat} {xs:List Nat} {w:World} (hx:Sl w p n c xs) (h:val xs < 18446744073709551616) :
  Calls Tryz.prog 109 #[.slice p n c] w (Ret (Is (.tuple #[.int .u64 ((val xs:Nat):Int),.bool true])) w):=by
 have hl2:ll (val xs) ≤ 2:=ll_le (by omega)
 rcases Nat.eq_zero_or_pos (val xs) with h0 | h0
 ·exact wuint64_0 hx h0
 have hp:0 < ll (val xs):=ll_pos (by omega)
 rcases Nat.lt_or_ge (ll (val xs)) 2 with h1 | h1
 ·exact wuint64_1 hx (by omega)
 exact wuint64_2 hx (by omega)
end Go.Proofs.YtnlnibngpeempaaGreatDoor
