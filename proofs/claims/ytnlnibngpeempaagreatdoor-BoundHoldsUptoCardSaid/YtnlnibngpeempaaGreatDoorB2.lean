/-
  Contracts and lemmas, joined in one text.
-/
import Derived.Test.YtnlnibngpeempaaGreatDoorWB
import Derived.OrdersIn
import Derived.Test.YtnlnibngpeempaaGreatDoorB1
import Derived.Test.YtnlnibngpeempaaGreatDoorRO
import Derived.Test.YtnlnibngpeempaaGreatDoorRC
set_option linter.unusedVariables false
set_option linter.unusedSimpArgs false
/-
  Within a round: a region that draws its order; a call of yield under a guard.
-/
set_option maxRecDepth 100000
set_option maxHeartbeats 16000000
namespace Go.Proofs.YtnlnibngpeempaaGreatDoor
open Go.RowKit
theorem wpAny_inn {P:Program} {md:Region.Mode} {ops:Array Oper} {Q:Exit → Act → World → Prop} {r:Option Nat} {m:Nat} (hd:∀ (i:Nat) o,ops[i]? = some o → noDefer o = true ∧ o.guard = none) (hlo:∀ a w, ¬ Q .outgrown a w) :
  ∀ (fuel:Nat) (listed:Array Bool) (a:Act) (w:World),wpAny P md ops Q fuel listed a w → wpAnyIn (Fz r) m P md ops Q fuel listed a w
 | 0,_,_,_,h => h
 | fuel + 1,listed,a,w,h => by
  refine ⟨h.1,fun i hi => ?_⟩
  have h1:=h.2 i hi
  unfold wpOp at h1
  unfold wpOpIn
  cases ho:ops[i]? with
  | none => rw [ho] at h1; exact wpAny_inn hd hlo fuel _ _ _ h1
  | some o =>
   rw [ho] at h1
   have hw:Region.wanted o (yielded ops a.tmps) = true:=by simp [Region.wanted,(hd i o ho).2]
   simp only [hw,if_true] at h1 ⊢
   rcases h1 with h1 | ⟨_,a',w',h2⟩
   ·exact OW.inn (hd i o ho).1 ⟨Oper.wp_mono (fun a' w' h' => wpAny_inn hd hlo fuel _ _ _ h') h1⟩
   exact absurd h2 (hlo a' w')
theorem rstage {P:Program} {n:Nat} {w0:World} {Q:Exit → Act → World → Prop} {r:Option Nat} {mm:Nat} {id:Nat} {f:Nat → Value} {R0:List Res} {w:World} {l:List Oper} (m:Nat) (ds:List Nat) (nd sr:List (List Nat)) (pu:List Nat) (Bl:List (Nat × List Value × TypeId)) (T:Nat → List Value → Tell) (hBl:HeldS Bl w) (hQ:∀ (d:Option Tmp) v c a w,Q (.panic c) (a.put d v) w → Q (.panic c) a w) (hlo:∀ a w, ¬ Q .outgrown a w) (hd:(l.all fun o => noDefer o && o.guard.isNone) = true) (hsel:Region.noSelect l.toArray = true) (hm:P.follows .mixedOrders = true) (hst:stageB l.toArray ds nd sr pu m = true) (hS:Sep w0 R0 w)
  (hstep:Steps P l.toArray n f ds nd sr pu Bl T w0 R0 m 0 l)
  (hend:∀ (vs:Nat → Value) (ρ : Nat → List Res) (w':World) (f':Nat → Value),f' = layf vs ds 0 f → (∀ i,i < m → T i ((sr.getD i []).map fun l => vs l) (vs i) (ρ i)) → Sep w0 (pool (fun _ => true) ρ m ++ R0) w' → Late P l.toArray Q Bl m (act n f') w') :
  CR r mm P (Code.region id l.toArray true) Q (act n f) w:=by
 refine ⟨wpIn_region_any hm (wpAny_inn (fun i o ho => ?_) hlo _ _ _ _ (wpAny_of_held (S:=HeldS Bl) _ _ _ _ ?_))⟩
 ·have h1:=List.all_eq_true.1 hd o (List.mem_of_getElem? (by simpa using ho))
  simpa using h1
 have hup:∀ i,Up (Array.replicate l.toArray.size false) i = false:=fun i => by
  unfold Up; simp [Array.getElem?_replicate]; split <;> rfl
 have hcount:((List.range m).countP fun i => !Up (Array.replicate l.toArray.size false) i) = m:=by
  have:((List.range m).countP fun i => !Up (Array.replicate l.toArray.size false) i) = (List.range m).length:=List.countP_eq_length.2 fun i _ => by rw [hup]; rfl
  rw [this,List.length_range]
 have hat:∀ i o,i < m → l.toArray[i]? = some o → StepOk P l.toArray n f ds nd sr Bl T w0 R0 i o ∧ (pu.contains i = true → PureOk P l.toArray n f ds nd sr Bl T i o):=fun i o hi ho => by have:=stepsAt hstep.out i o hi (by simpa using ho); rwa [Nat.zero_add] at this
 refine wstage_go hsel hQ (fun i o hp hi ho => (hat i o hi ho).2 hp) hst (fun i o hi ho => (hat i o hi ho).1) hend m _ _ f w.drew (fun _ => []) (by simp) hcount (Nat.le_refl _) (fun i _ => hup i) (fun i hi => by rw [hup i] at hi; cases hi) (fun _ _ => rfl) (fun i d _ hi => by rw [hup i] at hi; cases hi) ?_ ?_
 have e:∀ k,pool (Up (Array.replicate l.toArray.size false)) (fun _ => []) k = []:=fun k => by
  induction k with
  | zero => rfl
  | succ k ih => simp only [pool,ih]; split <;> rfl
 ·rw [e,List.nil_append]
  exact hS.drew
 exact hBl.grow (Below.refl _ _).drew
section
variable {P:Program} {o:Oper} {n:Nat} {f:Nat → Value} {w:World} {d:Nat} {r:Option Nat} {m:Nat} {Q:Exit → Act → World → Prop}
theorem ryieldOn {ops:Array Oper} {rest:List Oper} {l g:Nat} {b:Bool} {c:Call} {x:Operand} {xs:Array Operand} {ts:Array TypeId} {vs:Array Value} {Rp:Ending → World → Prop} (hg:o.guard = some (g,b)) {e:Nat} (hs:(ops[g]?).bind (·.dst) = some e) (hdl:Nat.blt e n = true) (hvg:f e = .bool b) (hop:o.op = .call c) (hc:c = { callee:=.value x,args:=xs,argTypes:=ts }) (ho:o.dst = some d)
  (hv:(act n f).eval x = .func (.yield l) #[] #[]) (hx:xs.map (act n f).eval = vs) (hY:YieldAt (Fz r) (m - 1) P l vs w Rp)
  (hK:∀ e w',Rp e w' → ∃ v,e = .returned v ∧ LR r m P ops Q rest (act n (upd f d v)) w'):LR r m P ops Q (o :: rest) (act n f) w:=by
 refine ⟨?_⟩
 have hw:Region.wanted o (yielded ops (act n f).tmps) = true:=want_on hg hs hdl hvg
 simp only [wpListIn,hw,if_true]
 refine ⟨fun _ _ => trivial,?_⟩
 rw [Oper.semAt_eq _ _ _ (fun c' hc' => by rw [hop] at hc'; cases hc')]
 obtain ⟨fn,tmps,assign,body,hy,hR⟩:=hY
 have e:(execOp (act n f).eval o).run P w = .ok (.round l fn tmps assign body) w:=by
  subst hc
  simp only [execOp,hop,resolve,hx,hv]
  simp [Deferred.ofValue,invoke,hy]
 rw [e,Oper.uponIn_round]
 refine ⟨fun h => (by cases h),hR.mono fun e w' h => ?_⟩
 obtain ⟨v,rfl,hk⟩:=hK e w' h
 show wpListIn _ _ _ _ _ _ ((act n f).put o.dst v) w'
 rw [ho,act_put]
 exact hk.out
end
open Go.RowKit
theorem top_no:∀ r,4294967291 < r → r < 4294967295 → ¬ MR.Pr r:=fun r h1 h2 h => by
  have h3:r = 4294967292 ∨ r = 4294967293 ∨ r = 4294967294:=by omega
  rcases h3 with rfl | rfl | rfl
  · exact absurd (h.2 2 (by decide)) (by decide)
  · exact absurd (h.2 9241 (by decide)) (by decide)
  exact absurd (h.2 2 (by decide)) (by decide)
theorem prs_ne {n:Nat} (h:2 < n):prs n ≠ []:=by
  rcases last_ex n with ⟨q,h1,h2,h3⟩ | hn
  · rw [prs_cons h1 n h2 h3]; exact List.cons_ne_nil _ _
  exact absurd (MR.pr_ex 2 (Nat.le_refl _)) fun ⟨p,hp,hd⟩ => hn p (by have:=Nat.le_of_dvd (by decide) hd; omega) hp
theorem falling_iter {w0:World} (ht:Tb w0) :
  Iter Tryz.prog 69 #[] (fun (q:Nat) => Is (.int .u32 (q:Int))) (prs 4294967295) w0 []:=by
 intro l I Ix Rc w hY hI0 hS
 show Calls Tryz.prog 69 #[.func (.yield l) #[] #[]] w _
 refine went Tryz.func69 rfl (n:=19) rfl rfl ?_
 refine wsr (wcl Tryz.call107 ((show Calls _ _ #[.int .u32 4294967295] _ (Ret (Is (.tuple #[.int .u32 ((4294967291:Nat):Int),.bool true])) _) from wplast (n0:=4294967295) (ht.at hS) (by decide) prTop (by decide) top_no)) (ar1 evc) hS ?_)
 clear hS; rintro _ _ w1 ⟨rfl,rfl⟩ hS
 refine wmv rfl rfl ?_
 refine wl rfl (oEx rfl rfl (ev rfl rfl) rfl ?_)
 refine wl rfl (oEx rfl rfl (ev rfl rfl) rfl ?_)
 refine wav rfl rfl ?_
 refine wav rfl rfl ?_
 refine wn1 (wBk ?_)
 refine wLp (σ := List Nat) (fun ys a9 w' => ∃ (fb:Nat → Value) (p:Nat) (ok:Bool) (pre:List Nat) (Rc:List Res),a9 = act 19 (sets fb [(0,.func (.yield l) #[] #[]),(2,.int .u32 (p:Int)),(3,.bool ok)]) ∧ Sep w0 (Rc) w' ∧ (prs 4294967295 = pre ++ ys) ∧ ((ok = true ∧ ys = p :: prs p ∧ MR.Pr p ∧ p < 4294967296) ∨ (ok = false ∧ ys = [])) ∧ (I pre Rc)) (fun ys => ys.length) ((prs 4294967295)) ⟨_,4294967291,true,[],_,aSs ⟨rfl,rfl,rfl,trivial⟩,hS,(List.nil_append _).symm,.inl ⟨rfl,prs_top,prTop,by decide⟩,hI0⟩ ?_
 clear hS; rintro ys _ w2 ⟨fb,p,ok,pre,Rc,rfl,hS,hpre,hst,hI⟩
 refine wSq (wSq ?_)
 refine cw_of_cr (m:=0) (rreg ?_)
 refine rl rfl rfl (omove rfl rfl (ev rfl rfl) ?_)
 refine rl rfl rfl (omove rfl rfl (ev rfl rfl) ?_)
 by_cases hok:ok = true
 ·
  subst hok
  obtain ⟨hys,hpp,hp32⟩:=(hst.resolve_right (fun h => by cases h.1)).2
  have hpx:pre ++ [p] <+: prs 4294967295:=⟨prs p,by rw [hpre,hys]; simp⟩
  refine rlOn (e:=9) rfl rfl rfl rfl rfl (omove rfl rfl (ev rfl rfl) ?_)
  refine rlOn (e:=9) rfl rfl rfl rfl rfl (omove rfl rfl (ev rfl rfl) ?_)
  refine ryieldOn (e:=9) rfl rfl rfl rfl rfl rfl rfl (ev rfl rfl) (ar1 (ev rfl rfl)) (hY 0 _ _ _ [] [] Rc _ (hpx) hI (⟨rfl,rfl⟩) hS) ?_
  intro e4 w3 hye4
  by_cases he4:e4 = .returned (.bool true)
  ·
   obtain ⟨rfl,Rc,hI,hS⟩:=hye4.resolve_right (fun h => by have h1:=h.1; rw [he4] at h1; cases h1)
   refine ⟨_,rfl,?_⟩
   by_cases hex:∃ q,MR.Pr q ∧ q < p ∧ ∀ r,q < r → r < p → ¬ MR.Pr r
   ·
    obtain ⟨q,hq1,hq2,hq3⟩:=hex
    refine rl rfl rfl (opick rfl rfl (ev rfl rfl) (ev rfl rfl) ?_)
    refine rnil (tNo ?_)
    refine wT (ev rfl rfl) ?_
    refine wSk (tNo (wBk (wreg (wmv rfl rfl ?_))))
    refine wcl Tryz.call107 (wplast (n0:=p) (ht.at hS) hp32 hq1 hq2 hq3) (ar1 (ev rfl rfl)) hS ?_
    clear hS; rintro _ _ w5 ⟨rfl,rfl⟩ hS
    refine wmv rfl rfl ?_
    refine wl rfl (oEx rfl rfl (ev rfl rfl) rfl ?_)
    refine wl rfl (oEx rfl rfl (ev rfl rfl) rfl ?_)
    refine wav rfl rfl ?_
    refine wav rfl rfl ?_
    refine wnil (blkN (tNo ?_))
    exact ⟨(prs p),⟨_,_,_,_,_,aSs ⟨rfl,rfl,rfl,trivial⟩,Sep.pickT [] [] hS [] (by decide) rfl,by rw [hpre,hys]; simp,.inl ⟨rfl,prs_cons hq1 p hq2 hq3,hq1,by omega⟩,hI⟩,by rw [hys]; simp⟩
   have hno:=(last_ex p).resolve_left hex
   refine rl rfl rfl (opick rfl rfl (ev rfl rfl) (ev rfl rfl) ?_)
   refine rnil (tNo ?_)
   refine wT (ev rfl rfl) ?_
   refine wSk (tNo (wBk (wreg (wmv rfl rfl ?_))))
   refine wcl Tryz.call107 (wplastN (n0:=p) (ht.at hS) hp32 hno) (ar1 (ev rfl rfl)) hS ?_
   clear hS; rintro _ _ w5 ⟨rfl,rfl⟩ hS
   refine wmv rfl rfl ?_
   refine wl rfl (oEx rfl rfl (ev rfl rfl) rfl ?_)
   refine wl rfl (oEx rfl rfl (ev rfl rfl) rfl ?_)
   refine wav rfl rfl ?_
   refine wav rfl rfl ?_
   refine wnil (blkN (tNo ?_))
   exact ⟨(prs p),⟨_,_,_,_,_,aSs ⟨rfl,rfl,rfl,trivial⟩,Sep.pickT [] [] hS [] (by decide) rfl,by rw [hpre,hys]; simp,.inr ⟨rfl,prs_nil p hno⟩,hI⟩,by rw [hys]; simp⟩
  obtain ⟨rfl,Rc,hI,hS⟩:=hye4.resolve_left (fun h => he4 h.1)
  refine ⟨_,rfl,?_⟩
  refine rl rfl rfl (opick rfl rfl (ev rfl rfl) (ev rfl rfl) ?_)
  refine rnil (tNo ?_)
  refine wF (ev rfl rfl) ?_
  refine wEx ?_
  refine tEx ?_
  refine tEx ?_
  refine blkE ?_
  refine wret0n Tryz.results69 ?_
  exact ⟨⟨_,rfl⟩,.inr ⟨_,Rc,hpx,hI,Sep.behind [] hS⟩⟩
 obtain rfl:ok = false:=by simpa using hok
 have hys:=(hst.resolve_left (fun h => by cases h.1)).2
 refine rlOff (e:=9) (d:=10) (b':=false) rfl rfl rfl rfl rfl rfl ?_
 refine rlOff (e:=9) (d:=11) (b':=false) rfl rfl rfl rfl rfl rfl ?_
 refine rlOff (e:=9) (d:=12) (b':=false) rfl rfl rfl rfl rfl rfl ?_
 refine rl rfl rfl (opick rfl rfl (ev rfl rfl) evc ?_)
 refine rnil (tNo ?_)
 refine wF (ev rfl rfl) ?_
 refine wEx ?_
 refine tEx ?_
 refine tEx ?_
 refine blkE ?_
 refine wret0n Tryz.results69 ?_
 exact ⟨⟨_,rfl⟩,.inl ⟨Rc,by rw [show prs 4294967295 = pre by rw [hpre,hys,List.append_nil]]; exact hI,Sep.behind [] hS⟩⟩
open Go.RowKit
theorem Sl.blk1 {w:World} {g a:Nat} {t:TypeId} (h:w.heap[g]? = some (.cells [.int .u32 ((a:Nat):Int)].toArray t)) (ha:a < 4294967296):Sl w (some ⟨g,0,none⟩) 1 1 [a]:=by
  refine ⟨rfl,Nat.le_refl _,by simp [maxLen],(fun i hi => match i,hi with | 0,_ => ha),(fun h => by cases h),fun i hi => ⟨g,0,rfl,?_⟩⟩
  obtain rfl:i = 0:=by simp at hi; omega
  exact (blk_cell h 0).trans rfl
section
variable {P:Program} {n:Nat} {f:Nat → Value} {w w0:World} {R:List Res} {D:Nat}
theorem mret2 {fn:Func} {r s:ResultVar} {u v:Value} {E:Ending → World → Prop} (hr:fn.results = #[r,s]) (hS:Sep w0 (.obj D (.deferred (some [])) :: R) w) (h1:∀ w',Sep w0 R w' → Tells P n f w' r u ∧ Tells P n f w' s v) (h:∀ w',Sep w0 R w' → E (.returned (.tuple #[u,v])) w'):postM P fn E .ret (marked D (act n f)) w:=by
  have hs:=(hS.putObj (.deferred none)).sub (List.sublist_cons_self _ _)
  obtain ⟨_,x⟩:=(wret2 hr (h1 _ hs).1 (h1 _ hs).2 (h _ hs):bodyPost P fn E .ret (act n f) (w.putObj D (.deferred none)))
  exact ⟨by simp,.inl ⟨D,_,rfl,run_takeDeferred (hS.get 0 rfl),x⟩⟩
end
theorem Sep.midN {w0 w:World} {Rf A FIX:List Res} (h:Sep w0 (Rf ++ (A ++ FIX)) w):Sep w0 (A ++ (Rf ++ FIX)) w:=Sep.front1 h
def CV (gO gZ gD gT:Nat) (bd:Bool) (pd:Option Addr) (nd_ cd nt ct:Nat) (pt po:Option Addr) (co:Nat) (pz:Option Addr) (nz cz:Nat) (z:Int) (xs:List Nat) (FIX:List Res):List Res :=
  .blk gO [.slice po xs.length co] 25 :: .blk gZ [.bool (ng z),.slice pz nz cz] 28 :: .rowm po xs.length co xs :: .row pz nz cz (lim z.natAbs) :: .blk gD [.bool bd,.slice pd nd_ cd] 28 :: .blk gT [.bool (ng 2),.slice pt nt ct] 28 :: .row pt nt ct (lim (2:Int).natAbs) :: FIX
theorem CV.mid {w0 w:World} {gO gZ gD gT:Nat} {bd:Bool} {pd:Option Addr} {nd_ cd nt ct:Nat} {pt po:Option Addr} {co:Nat} {pz:Option Addr} {nz cz:Nat} {z:Int} {xs:List Nat} {Rf FIX:List Res} (h:Sep w0 (Rf ++ CV gO gZ gD gT bd pd nd_ cd nt ct pt po co pz nz cz z xs FIX) w):Sep w0 ([.blk gO [.slice po xs.length co] 25,.blk gZ [.bool (ng z),.slice pz nz cz] 28,.rowm po xs.length co xs,.row pz nz cz (lim z.natAbs),.blk gD [.bool bd,.slice pd nd_ cd] 28,.blk gT [.bool (ng 2),.slice pt nt ct] 28,.row pt nt ct (lim (2:Int).natAbs)] ++ (Rf ++ FIX)) w:=Sep.midN (A:=[.blk gO [.slice po xs.length co] 25,.blk gZ [.bool (ng z),.slice pz nz cz] 28,.rowm po xs.length co xs,.row pz nz cz (lim z.natAbs),.blk gD [.bool bd,.slice pd nd_ cd] 28,.blk gT [.bool (ng 2),.slice pt nt ct] 28,.row pt nt ct (lim (2:Int).natAbs)]) h
theorem CV.rest {w0 w:World} {D:Nat} {o:Obj} {gO gZ gD gT:Nat} {bd:Bool} {pd:Option Addr} {nd_ cd nt ct:Nat} {pt po:Option Addr} {co:Nat} {pz:Option Addr} {nz cz:Nat} {z:Int} {xs:List Nat} {r1 r2:Res} (h:Sep w0 (.obj D o :: CV gO gZ gD gT bd pd nd_ cd nt ct pt po co pz nz cz z xs [r1,r2]) w):Sep w0 [.obj D o,.blk gO [.slice po xs.length co] 25,.rowm po xs.length co xs,r1,r2] w :=
  Sep.pickT (T:=[]) (.obj D o :: (([.blk gO [.slice po xs.length co] 25,.blk gZ [.bool (ng z),.slice pz nz cz] 28,.rowm po xs.length co xs,.row pz nz cz (lim z.natAbs),.blk gD [.bool bd,.slice pd nd_ cd] 28,.blk gT [.bool (ng 2),.slice pt nt ct] 28,.row pt nt ct (lim (2:Int).natAbs)]:List Res) ++ [r1,r2])) [.obj D o,.blk gO [.slice po xs.length co] 25,.rowm po xs.length co xs,r1,r2] h [0,1,3,8,9] (by decide) rfl
def CI (gO gZ gD gT:Nat) (bd:Bool) (pd:Option Addr) (nd_ cd nt ct:Nat) (pt:Option Addr) (FIX:List Res) (pre:List Nat) (Rc:List Res):Prop :=
  ∃ po co pz nz cz z,((pre = [] ∧ z = 1) ∨ (pre = [4294967291] ∧ z = 4294967291)) ∧ Rc = CV gO gZ gD gT bd pd nd_ cd nt ct pt po co pz nz cz z pre FIX
def CX (gO gZ gD gT:Nat) (bd:Bool) (pd:Option Addr) (nd_ cd nt ct:Nat) (pt:Option Addr) (FIX:List Res) (c:Code) (_:List Nat) (Rc:List Res):Prop :=
  c = .exit 0 ∧ ∃ po co pz nz cz,Rc = CV gO gZ gD gT bd pd nd_ cd nt ct pt po co pz nz cz 4294967291 [4294967291] FIX
def CA (gO gZ gD gT:Nat) (bd:Bool) (pd:Option Addr) (nd_ cd nt ct:Nat) (pt:Option Addr) (FIX:List Res) (pre:List Nat) (x:Nat) (f':Nat → Value) (Rc:List Res):Prop :=
  ∃ fa,f' = upd (upd fa 26 (.int .u32 ((x:Nat):Int))) 9 (.int .u32 ((x:Nat):Int)) ∧ fa 2 = .pointer (some ⟨gD,0,none⟩) ∧ fa 6 = .pointer (some ⟨gT,0,none⟩) ∧ fa 7 = .pointer (some ⟨gO,0,none⟩) ∧ fa 8 = .pointer (some ⟨gZ,0,none⟩) ∧ CI gO gZ gD gT bd pd nd_ cd nt ct pt FIX pre Rc
theorem choose_r1 {k0_ k1_ k2_ k3_ k4_ k5_ k6_ k7_ cB:Code} {g_:Operand} {ps_:Array Nat} {as_:Code} (hc:(Tryz.f29).body = some (.seq k7_ (.seq k6_ (.seq k5_ (.seq k4_ (.seq k3_ (.seq k2_ (.seq k1_ (.seq (.block 0 (.rangeFunc g_ ps_ as_ cB)) k0_))))))))) {l m x:Nat} {f:Nat → Value} {T Rf:List Res} {gO gZ gD gT:Nat} {bd:Bool} {pd:Option Addr} {nd_ cd nt ct:Nat} {pt:Option Addr} {FIX:List Res} {po pz:Option Addr} {co nz cz:Nat} {w0 w:World} (hf:AllAt f [(2,.pointer (some ⟨gD,0,none⟩)),(6,.pointer (some ⟨gT,0,none⟩)),(7,.pointer (some ⟨gO,0,none⟩)),(8,.pointer (some ⟨gZ,0,none⟩)),(9,.int .u32 (((x:Nat):Int)))]) (hd:Zr w0 bd pd nd_ cd 1 2) (hx:x = 4294967291) (hT:T = Rf ++ FIX) (hS:Sep w0 (.blk gO [.slice po 0 co] 25 :: .blk gZ [.bool (ng 1),.slice pz nz cz] 28 :: .rowm po 0 co ([]) :: .row pz nz cz (lim (1:Int).natAbs) :: .blk gD [.bool bd,.slice pd nd_ cd] 28 :: .blk gT [.bool (ng 2),.slice pt nt ct] 28 :: .row pt nt ct (lim (2:Int).natAbs) :: T) w) :
  CR (some l) m Tryz.prog cB (roundEnd w0 (CI gO gZ gD gT bd pd nd_ cd nt ct pt FIX) (CX gO gZ gD gT bd pd nd_ cd nt ct pt FIX) Rf [x]) (act 52 f) w:=by
 obtain rfl:=(Code.rangeFunc.inj (Code.block.inj (Code.seq.inj (Code.seq.inj (Code.seq.inj (Code.seq.inj (Code.seq.inj (Code.seq.inj (Code.seq.inj (Code.seq.inj (Option.some.inj hc)).2).2).2).2).2).2).2).1).2).2.2.2
 clear hc
 rw [aSs hf]
 have hkz:Wd 1 2:=Wd.i64 (by omega) (by omega)
 have hkt:Wd 2 3:=(Wd.i64 (by omega) (by omega)).mono (by omega)
 refine rblock (rseq (rseq (rreg ?_)))
 refine rl rfl rfl (oLd aggZ hS 1 rfl rfl (ev rfl rfl) rfl rfl rfl ?_)
 refine rl rfl rfl (oLd aggZ hS 5 rfl rfl (ev rfl rfl) rfl rfl rfl ?_)
 obtain ⟨s1,hs1⟩:∃ z:Int,Hid (cmpZ 1 2 = z):=⟨_,rfl⟩
 refine rl rfl rfl (oCl rfl rfl Tryz.call70 rfl (wzcmp (((hS.sl 3 rfl).zr hkz).mono (by omega)) (((hS.sl 6 rfl).zr hkt).mono (by omega)) hs1) (ar2 (ev rfl rfl) (ev rfl rfl)) ?_)
 rintro _ w1 ⟨_,_,rfl,⟨rfl,rfl⟩,hN⟩
 refine ⟨_,rfl,?_⟩
 replace hS:=hS.news hN; clear hN
 refine rl rfl rfl (obin (u:=.int .i64 s1) (v:=.int .i64 0) (z:=.bool false) rfl rfl (ev rfl rfl) evc (bin_gtr (decide_eq_false (by have h9:=hs1.out; have h8:cmpZ 1 2 = -1:=(by decide); omega))) ?_)
 refine rnil (tNo ?_)
 refine rF (ev rfl rfl) ?_
 refine rskip (tNo (rseq (rseq (rreg ?_))))
 refine rl rfl rfl (oLd aggZ hS 4 rfl rfl (ev rfl rfl) rfl rfl rfl ?_)
 refine rl rfl rfl (omove rfl rfl (ev rfl rfl) ?_)
 refine rl rfl rfl (oCl rfl rfl Tryz.call71 rfl (wzmod ((hd.at hS).mono (by omega)) (by omega) (by omega)) (ar2 (ev rfl rfl) (ev rfl rfl)) ?_)
 rintro _ w2 ⟨_,_,rfl,⟨rfl,rfl⟩,hN⟩
 refine ⟨_,rfl,?_⟩
 replace hS:=hS.news hN; clear hN
 refine rl rfl rfl (omove rfl rfl (ev rfl rfl) ?_)
 refine rl rfl rfl (oEx rfl rfl (ev rfl rfl) rfl ?_)
 refine rl rfl rfl (oEx rfl rfl (ev rfl rfl) rfl ?_)
 refine rl rfl rfl (oassign rfl rfl (ev rfl rfl) ?_)
 refine rl rfl rfl (oassign rfl rfl (ev rfl rfl) ?_)
 refine rnil (tNo (rseq (rreg ?_)))
 refine rl rfl rfl (omove rfl rfl (ev rfl rfl) ?_)
 refine rl rfl rfl (obin rfl rfl (ev rfl rfl) evc (bEq (eqF (by rw [hx]; decide))) ?_)
 refine rnil (tNo ?_)
 refine rF (ev rfl rfl) ?_
 refine rskip (tNo (rseq (rseq (rreg ?_))))
 refine rl rfl rfl (oL1 ⟨Tryz.isAgg25,Tryz.sizeOf25⟩ hS 0 rfl rfl (ev rfl rfl) rfl rfl ?_)
 refine rl rfl rfl (olen rfl rfl rfl Tryz.runUnderlying25 (p:=po) (k:=0) (m:=co) (ev rfl rfl) ?_)
 refine rl rfl rfl (obin (u:=.int .i64 ((0:Nat):Int)) (v:=.int .i64 10000) (z:=.bool false) rfl rfl (ev rfl rfl) evc (bEq (eqF (by decide))) ?_)
 refine rnil (tNo ?_)
 refine rF (ev rfl rfl) ?_
 refine rskip (tNo (rseq (rreg ?_)))
 refine rl rfl rfl (oL1 ⟨Tryz.isAgg25,Tryz.sizeOf25⟩ hS 0 rfl rfl (ev rfl rfl) rfl rfl ?_)
 refine rl rfl rfl (omove rfl rfl (ev rfl rfl) ?_)
 refine rl rfl rfl (obslice (ps:=#[(0,.int .u32 (x:Int))]) (z:=.int .u32 0) [.int .u32 (x:Int)] hS rfl rfl Tryz.runUnderlying25 Tryz.sizeOf63 Tryz.zeroValue63 (parts1 (ev (v:=.int .u32 (x:Int)) rfl rfl)) rfl (by decide) (fill1_1s rfl rfl) ?_)
 clear hS; intro g3 w4 hS
 obtain hS:=(show Sep w0 (.rowm po 0 co ([]) :: .blk g3 [.int .u32 (((x:Nat):Int))] 63 :: .blk gO [.slice po 0 co] 25 :: .blk gZ [.bool (ng 1),.slice pz nz cz] 28 :: .row pz nz cz (lim (1:Int).natAbs) :: .blk gD [.bool bd,.slice pd nd_ cd] 28 :: .blk gT [.bool (ng 2),.slice pt nt ct] 28 :: .row pt nt ct (lim (2:Int).natAbs) :: T) w4 from Sep.pickT [.blk g3 [.int .u32 (((x:Nat):Int))] 63,.blk gO [.slice po 0 co] 25,.blk gZ [.bool (ng 1),.slice pz nz cz] 28,.rowm po 0 co ([]),.row pz nz cz (lim (1:Int).natAbs),.blk gD [.bool bd,.slice pd nd_ cd] 28,.blk gT [.bool (ng 2),.slice pt nt ct] 28,.row pt nt ct (lim (2:Int).natAbs)] [.rowm po 0 co ([]),.blk g3 [.int .u32 (((x:Nat):Int))] 63,.blk gO [.slice po 0 co] 25,.blk gZ [.bool (ng 1),.slice pz nz cz] 28,.row pz nz cz (lim (1:Int).natAbs),.blk gD [.bool bd,.slice pd nd_ cd] 28,.blk gT [.bool (ng 2),.slice pt nt ct] 28,.row pt nt ct (lim (2:Int).natAbs)] hS [3,0,1,2,4,5,6,7] (by decide) rfl)
 refine rl rfl rfl (oappendR (p:=po) (m:=0) (c:=co) (xs:=([])) (k:=1) (c2:=1) (a:=(some ⟨g3,0,none⟩)) (ys:=([x])) hS rfl rfl Tryz.underlying25 infouint32 (ev (v:=.slice po 0 co) rfl rfl) (ev (v:=.slice (some ⟨g3,0,none⟩) 1 1) rfl rfl) (Sl.blk1 (hS.blkAt 1 rfl) (by omega)) (by decide) (by decide) ?_)
 clear hS; intro p6 c7 w5 hS
 refine rl rfl rfl (oSt _ _ Tryz.sizeOf25 hS 2 rfl rfl (ev rfl rfl) (ev rfl rfl) rfl rfl rfl rfl rfl rfl ?_)
 clear hS; intro w8 hS
 refine rnil (tNo ?_)
 have hk2:Wd (((x:Nat):Int)) 2:=Wd.i64 (by omega) (by omega)
 obtain ⟨z3,hz3⟩:∃ z:Int,Hid (1 * (((x:Nat):Int)) = z):=⟨_,rfl⟩
 have hk3:Wd z3 4:=Wd.mul hkz hk2 hz3 (by omega)
 refine rstage 5 [46,47,48,49,50] [[],[],[1],[2,1],[0,3,1,2]] [[],[],[],[],[]] [] [] (fun i9 => ([fun _ => Is (.agg #[.bool (ng 1),.slice pz nz cz]),fun _ => Is (.int .u32 (x:Int)),fun _ => Is (.int .i64 (x:Int)),fun _ => Zt (x:Int),fun _ => Zt z3]:List (List Value → Tell)).getD i9 (fun _ _ _ => False)) hNi (fun d _ _ _ _ h => (by cases d <;> exact h)) (fun _ _ h => h) (by rfl) (by kernel_rfl) (by kernel_rfl) (by kernel_rfl) hS ?_ ?_
 ·
  refine stH rfl (fun ho hS=>?_) ?_
  ·exact inNo rfl (oLd aggZ hS 3 rfl rfl (ev rfl (ho 8 rfl)) rfl rfl rfl (nSm rfl isI))
  refine stM rfl rfl rfl rfl rfl (fun _=>isI) ?_
  refine stT rfl (fun hT hS=>?_) ?_
  ·obtain ⟨hv1,hr1⟩:=hT 1 47 rfl rfl
   obtain hS:=(hS.flat1 hr1).front1
   exact inNo rfl (oCv (u:=.int .u32 (x:Int)) (v:=.int .i64 (x:Int)) rfl rfl (ev rfl hv1) (cvI Tryz.runUnderlying63 Tryz.runUnderlying2 (wI6 (by omega) (by omega))) (nSm rfl isI))
  refine stT rfl (fun hT hS=>?_) ?_
  ·obtain ⟨hv2,hr2⟩:=hT 2 48 rfl rfl
   obtain hS:=(hS.flat1 hr2).front1
   exact .inl ⟨wNo rfl,oCl rfl rfl Tryz.call33 rfl (wzof (z:=(x:Int)) (by omega) (by omega)) (ar1 (ev rfl hv2)) cNw⟩
  refine stT rfl (fun hT hS=>?_) ?_
  ·obtain ⟨hv0,hr0⟩:=hT 0 46 rfl rfl
   obtain ⟨p2,n2,c2,hv3,hr3⟩:=(hT 3 49 rfl rfl:(Zt (((x:Nat):Int))) _ _)
   obtain hS:=(hS.flat2 hr0 hr3).front2
   exact .inl ⟨wNo rfl,oCl rfl rfl Tryz.call35 rfl (wzmul (((hS.sl 5 rfl).zr hkz).mono (by omega)) (((hS.sl 0 rfl).zr hk2).mono (by omega)) hz3) (ar2 (ev rfl hv0) (ev rfl hv3)) cNw⟩
  exact sNi
 intro vs ρ w9 f' hf hT hS
 obtain ⟨hv0,hr0⟩:=hT 0 (by decide)
 obtain ⟨hv1,hr1⟩:=hT 1 (by decide)
 obtain ⟨hv2,hr2⟩:=hT 2 (by decide)
 obtain ⟨p2,n2,c2,hv3,hr3⟩:=(hT 3 (by decide):(Zt (((x:Nat):Int))) _ _)
 obtain ⟨p3,n3,c3,hv4,hr4⟩:=(hT 4 (by decide):(Zt z3) _ _)
 simp only [pool,if_true,hr0,hr1,hr2,hr3,hr4,List.nil_append,List.cons_append,List.append_nil] at hS
 simp only [layf,hv0,hv1,hv2,hv3,hv4] at hf
 subst hf; clear hT hv0 hv1 hv2 hv3 hv4 hr0 hr1 hr2 hr3 hr4
 refine wLt 5 rfl (by kernel_rfl) (oSt _ _ Tryz.sizeOf28 hS 5 rfl rfl (ev rfl rfl) (ev rfl rfl) rfl rfl rfl rfl rfl rfl ?_)
 clear hS; intro w10 hS
 refine ⟨hNi,?_⟩
 refine wdone rfl ?_
 refine blkN ?_
 simp only [List.set_cons_succ,List.set_cons_zero] at hS
 obtain hS:=(show Sep w0 (.blk gO [.slice p6 ((0 + 1)) c7] 25 :: .blk gZ [.bool (ng z3),.slice p3 n3 c3] 28 :: .rowm p6 ((0 + 1)) c7 ([x]) :: .row p3 n3 c3 (lim z3.natAbs) :: .blk gD [.bool bd,.slice pd nd_ cd] 28 :: .blk gT [.bool (ng 2),.slice pt nt ct] 28 :: .row pt nt ct (lim (2:Int).natAbs) :: .row p2 n2 c2 (lim (((x:Nat):Int)).natAbs) :: .blk g3 [.int .u32 (((x:Nat):Int))] 63 :: .row pz nz cz (lim (1:Int).natAbs) :: T) w10 from Sep.pickT [.row p3 n3 c3 (lim z3.natAbs),.row p2 n2 c2 (lim (((x:Nat):Int)).natAbs),.rowm p6 ((0 + 1)) c7 ([x]),.blk g3 [.int .u32 (((x:Nat):Int))] 63,.blk gO [.slice p6 ((0 + 1)) c7] 25,.blk gZ [.bool (ng z3),.slice p3 n3 c3] 28,.row pz nz cz (lim (1:Int).natAbs),.blk gD [.bool bd,.slice pd nd_ cd] 28,.blk gT [.bool (ng 2),.slice pt nt ct] 28,.row pt nt ct (lim (2:Int).natAbs)] [.blk gO [.slice p6 ((0 + 1)) c7] 25,.blk gZ [.bool (ng z3),.slice p3 n3 c3] 28,.rowm p6 ((0 + 1)) c7 ([x]),.row p3 n3 c3 (lim z3.natAbs),.blk gD [.bool bd,.slice pd nd_ cd] 28,.blk gT [.bool (ng 2),.slice pt nt ct] 28,.row pt nt ct (lim (2:Int).natAbs),.row p2 n2 c2 (lim (((x:Nat):Int)).natAbs),.blk g3 [.int .u32 (((x:Nat):Int))] 63,.row pz nz cz (lim (1:Int).natAbs)] hS [4,5,2,0,7,8,9,1,3,6] (by decide) rfl)
 obtain hS:=(show Sep w0 (.blk gO [.slice p6 ((0 + 1)) c7] 25 :: .blk gZ [.bool (ng z3),.slice p3 n3 c3] 28 :: .rowm p6 ((0 + 1)) c7 ([x]) :: .row p3 n3 c3 (lim z3.natAbs) :: .blk gD [.bool bd,.slice pd nd_ cd] 28 :: .blk gT [.bool (ng 2),.slice pt nt ct] 28 :: .row pt nt ct (lim (2:Int).natAbs) :: T) w10 from Sep.pickT [.blk gO [.slice p6 ((0 + 1)) c7] 25,.blk gZ [.bool (ng z3),.slice p3 n3 c3] 28,.rowm p6 ((0 + 1)) c7 ([x]),.row p3 n3 c3 (lim z3.natAbs),.blk gD [.bool bd,.slice pd nd_ cd] 28,.blk gT [.bool (ng 2),.slice pt nt ct] 28,.row pt nt ct (lim (2:Int).natAbs),.row p2 n2 c2 (lim (((x:Nat):Int)).natAbs),.blk g3 [.int .u32 (((x:Nat):Int))] 63,.row pz nz cz (lim (1:Int).natAbs)] [.blk gO [.slice p6 ((0 + 1)) c7] 25,.blk gZ [.bool (ng z3),.slice p3 n3 c3] 28,.rowm p6 ((0 + 1)) c7 ([x]),.row p3 n3 c3 (lim z3.natAbs),.blk gD [.bool bd,.slice pd nd_ cd] 28,.blk gT [.bool (ng 2),.slice pt nt ct] 28,.row pt nt ct (lim (2:Int).natAbs)] hS [0,1,2,3,4,5,6] (by decide) rfl)
 obtain rfl:(4294967291:Int) = z3:=by have h8:=hz3.out; omega
 subst hT
 subst hx
 exact ⟨_,⟨_,_,_,_,_,_,.inr ⟨rfl,rfl⟩,rfl⟩,Sep.midN (A:=Rf) (Rf:=[_,_,_,_,_,_,_]) hS⟩
theorem choose_r2 {k0_ k1_ k2_ k3_ k4_ k5_ k6_ k7_ cB:Code} {g_:Operand} {ps_:Array Nat} {as_:Code} (hc:(Tryz.f29).body = some (.seq k7_ (.seq k6_ (.seq k5_ (.seq k4_ (.seq k3_ (.seq k2_ (.seq k1_ (.seq (.block 0 (.rangeFunc g_ ps_ as_ cB)) k0_))))))))) {l m x:Nat} {f:Nat → Value} {T Rf:List Res} {gO gZ gD gT:Nat} {bd:Bool} {pd:Option Addr} {nd_ cd nt ct:Nat} {pt:Option Addr} {FIX:List Res} {po pz:Option Addr} {co nz cz:Nat} {w0 w:World} {pre:List Nat} (hf:AllAt f [(2,.pointer (some ⟨gD,0,none⟩)),(6,.pointer (some ⟨gT,0,none⟩)),(7,.pointer (some ⟨gO,0,none⟩)),(8,.pointer (some ⟨gZ,0,none⟩)),(9,.int .u32 (((x:Nat):Int)))]) (hd:Zr w0 bd pd nd_ cd 1 2) (hT:T = Rf ++ FIX) (hS:Sep w0 (.blk gO [.slice po 1 co] 25 :: .blk gZ [.bool (ng 4294967291),.slice pz nz cz] 28 :: .rowm po 1 co ([4294967291]) :: .row pz nz cz (lim (4294967291:Int).natAbs) :: .blk gD [.bool bd,.slice pd nd_ cd] 28 :: .blk gT [.bool (ng 2),.slice pt nt ct] 28 :: .row pt nt ct (lim (2:Int).natAbs) :: T) w) :
  CR (some l) m Tryz.prog cB (roundEnd w0 (CI gO gZ gD gT bd pd nd_ cd nt ct pt FIX) (CX gO gZ gD gT bd pd nd_ cd nt ct pt FIX) Rf pre) (act 52 f) w:=by
 obtain rfl:=(Code.rangeFunc.inj (Code.block.inj (Code.seq.inj (Code.seq.inj (Code.seq.inj (Code.seq.inj (Code.seq.inj (Code.seq.inj (Code.seq.inj (Code.seq.inj (Option.some.inj hc)).2).2).2).2).2).2).2).1).2).2.2.2
 clear hc
 rw [aSs hf]
 have hkz:Wd 4294967291 2:=Wd.i64 (by omega) (by omega)
 have hkt:Wd 2 3:=(Wd.i64 (by omega) (by omega)).mono (by omega)
 refine rblock (rseq (rseq (rreg ?_)))
 refine rl rfl rfl (oLd aggZ hS 1 rfl rfl (ev rfl rfl) rfl rfl rfl ?_)
 refine rl rfl rfl (oLd aggZ hS 5 rfl rfl (ev rfl rfl) rfl rfl rfl ?_)
 obtain ⟨s1,hs1⟩:∃ z:Int,Hid (cmpZ 4294967291 2 = z):=⟨_,rfl⟩
 refine rl rfl rfl (oCl rfl rfl Tryz.call70 rfl (wzcmp (((hS.sl 3 rfl).zr hkz).mono (by omega)) (((hS.sl 6 rfl).zr hkt).mono (by omega)) hs1) (ar2 (ev rfl rfl) (ev rfl rfl)) ?_)
 rintro _ w1 ⟨_,_,rfl,⟨rfl,rfl⟩,hN⟩
 refine ⟨_,rfl,?_⟩
 replace hS:=hS.news hN; clear hN
 refine rl rfl rfl (obin (u:=.int .i64 s1) (v:=.int .i64 0) (z:=.bool true) rfl rfl (ev rfl rfl) evc (bin_gtr (decide_eq_true (by have h9:=hs1.out; have h8:cmpZ 4294967291 2 = 1:=(by decide); omega))) ?_)
 refine rnil (tNo ?_)
 refine rT (ev rfl rfl) ?_
 refine rexit ?_
 refine tEx ?_
 refine blkX rfl ?_
 subst hT
 exact ⟨_,⟨rfl,_,_,_,_,_,rfl⟩,Sep.midN (A:=Rf) (Rf:=[_,_,_,_,_,_,_]) hS⟩
theorem choose_rest {k0_ k1_ k2_ k3_ k4_ k5_ k6_ k7_ cB:Code} (hc:(Tryz.f29).body = some (.seq k7_ (.seq k6_ (.seq k5_ (.seq k4_ (.seq k3_ (.seq k2_ (.seq k1_ (.seq k0_ cB))))))))) {fb:Nat → Value} {gO gA gE D co:Nat} {po:Option Addr} (hf:AllAt fb [(4,.pointer (some ⟨gA,0,none⟩)),(5,.pointer (some ⟨gE,0,none⟩)),(7,.pointer (some ⟨gO,0,none⟩))]) {w0 w:World} (hS:Sep w0 [.obj D (.deferred (some [])),.blk gO [.slice po 1 co] 25,.rowm po 1 co ([4294967291]),.blk gA [.slice none 0 0] 25,.blk gE [.int .i64 0] 33] w) :
  CW Tryz.prog cB (postM Tryz.prog Tryz.f29 (Ret (RwE [4294967291] 0) w0)) (marked D (act 52 fb)) w:=by
 obtain rfl:=(Code.seq.inj (Code.seq.inj (Code.seq.inj (Code.seq.inj (Code.seq.inj (Code.seq.inj (Code.seq.inj (Code.seq.inj (Option.some.inj hc)).2).2).2).2).2).2).2).2
 clear hc
 rw [mact_sets hf]
 refine wSq ?_
 refine mreg ?_
 refine ml rfl (oL1 ⟨Tryz.isAgg25,Tryz.sizeOf25⟩ hS 1 rfl rfl (ev rfl rfl) rfl rfl ?_)
 refine ml rfl (oSt _ _ Tryz.sizeOf25 hS 3 rfl rfl (ev rfl rfl) (ev rfl rfl) rfl rfl rfl rfl rfl rfl ?_)
 clear hS; intro w1 hS
 refine ml rfl (oSt _ _ Tryz.sizeOf33 hS 4 rfl rfl (ev rfl rfl) (evc (v:=.int .i64 0)) rfl rfl rfl rfl rfl rfl ?_)
 clear hS; intro w2 hS
 refine mnil ?_
 refine tNo ?_
 refine wLv ?_
 refine mret2 Tryz.results29 hS (fun w9 hS => ⟨(tellC1 (v:=.slice po 1 co) ⟨Tryz.isAgg25,Tryz.sizeOf25⟩ hS 2 rfl rfl rfl),(tellC1 (v:=.int .i64 0) ⟨Tryz.isAgg33,Tryz.sizeOf33⟩ hS 3 rfl rfl rfl)⟩) (fun w9 hS => ?_)
 exact ⟨_,_,rfl,⟨_,_,rfl,rfl⟩,hS.newR 1 rfl rfl⟩
theorem wchoose11 {bd b2:Bool} {pd pb:Option Addr} {nd_ cd nb cb:Nat} {w:World} (hd:Zr w bd pd nd_ cd 1 2) (hb:Zr w b2 pb nb cb 1 2) (ht:Tb w) :
  Calls Tryz.prog 29 #[.agg #[.bool bd,.slice pd nd_ cd],.agg #[.bool b2,.slice pb nb cb]] w (Ret (RwE [4294967291] 0) w):=by
 have hS:=Sep.init w
 refine wentM Tryz.func29 rfl (n:=52) rfl rfl ?_
 refine wsr (wl rfl (obox [.bool bd,.slice pd nd_ cd] hS rfl rfl (ev rfl rfl) rfl ?_))
 clear hS; intro g1 w2 hS
 refine wl rfl (obox [.bool b2,.slice pb nb cb] hS rfl rfl (ev rfl rfl) rfl ?_)
 clear hS; intro g3 w4 hS
 refine wl rfl (oAl [.slice none 0 0] hS rfl rfl Tryz.zeroValue25 rfl ?_)
 clear hS; intro g5 w6 hS
 refine wl rfl (oAl [.int .i64 0] hS rfl rfl Tryz.zeroValue33 rfl ?_)
 clear hS; intro g7 w8 hS
 refine wn1 (wSq (wsr (wl rfl (oLd aggZ hS 3 rfl rfl (ev rfl rfl) rfl rfl rfl ?_))))
 obtain ⟨s1,hs1⟩:∃ z:Int,Hid ((1:Int).sign = z):=⟨_,rfl⟩
 refine wcl Tryz.call67 (wzsign ((hd.at hS).mono (by omega)) hs1) (ar1 (ev rfl rfl)) hS ?_
 clear hS; rintro _ _ w9 ⟨rfl,rfl⟩ hS
 refine wbc (u:=.int .i64 s1) (v:=.int .i64 0) (z:=.bool false) rfl rfl (bEq (eqF (by have h9:=hs1.out; have h8:Int.sign 1 = 1:=(by decide); omega))) ?_
 refine wn1 ?_
 refine wF (ev rfl rfl) ?_
 refine wSk (tNo (wSq (wsr (wl rfl (oLd aggZ hS 2 rfl rfl (ev rfl rfl) rfl rfl rfl ?_)))))
 obtain ⟨s2,hs2⟩:∃ z:Int,Hid ((1:Int).sign = z):=⟨_,rfl⟩
 refine wcl Tryz.call67 (wzsign ((hb.at hS).mono (by omega)) hs2) (ar1 (ev rfl rfl)) hS ?_
 clear hS; rintro _ _ w10 ⟨rfl,rfl⟩ hS
 refine wbc (u:=.int .i64 s2) (v:=.int .i64 0) rfl rfl (bLs (decide_eq_false (by have h9:=hs2.out; have h8:Int.sign 1 = 1:=(by decide); omega))) ?_
 refine wn1 ?_
 refine wF (ev rfl rfl) ?_
 refine wSk (tNo (wsr (wl rfl (oLd aggZ hS 2 rfl rfl (ev rfl rfl) rfl rfl rfl ?_))))
 refine wl rfl (oLd aggZ hS 2 rfl rfl (ev rfl rfl) rfl rfl rfl ?_)
 obtain ⟨z3,hz3⟩:∃ z:Int,Hid (1 + 1 = z):=⟨_,rfl⟩
 have hk3:Wd z3 3:=Wd.add hb.wd hb.wd hz3 (by omega)
 refine wcl Tryz.call34 (wzadd ((hb.at hS).mono (by omega)) ((hb.at hS).mono (by omega)) hz3) (ar2 (ev rfl rfl) (ev rfl rfl)) hS ?_
 clear hS; rintro _ _ w11 ⟨p3,n3,c3,rfl,rfl⟩ hS
 refine wl rfl (oAl [.bool false,.slice none 0 0] hS rfl rfl Tryz.zeroValue28 rfl ?_)
 clear hS; intro g12 w13 hS
 refine wl rfl (oSt _ _ Tryz.sizeOf28 hS 0 rfl rfl (ev rfl rfl) (ev rfl rfl) rfl rfl rfl rfl rfl rfl ?_)
 clear hS; intro w14 hS
 refine wn1 (wSq (wsr (wl rfl (oFA (g:=g12) (off:=0) 1 rfl rfl (ev rfl rfl) Tryz.runUnderlying28 rfl Tryz.sizeOf26 rfl ?_))))
 refine wl rfl (oL1 oneN hS 0 rfl rfl (ev rfl rfl) rfl rfl ?_)
 refine wcl Tryz.call68 (wnlen (hS.sl 1 rfl) (hk3.mono (by omega))) (ar1 (ev rfl rfl)) hS ?_
 clear hS; rintro _ _ w15 ⟨rfl,rfl⟩ hS
 refine wbc (u:=.int .i64 (((blen (z3).natAbs:Nat):Int))) (v:=.int .i64 320000) rfl rfl (bin_gtr (decide_eq_false (by rw [← hz3.out]; have h8:blen ((1 + 1:Int)).natAbs = 2:=(by decide); omega))) ?_
 refine wn1 ?_
 refine wF (ev rfl rfl) ?_
 refine wSk (tNo (wsr (wl rfl (oAl [.slice none 0 0] hS rfl rfl Tryz.zeroValue25 rfl ?_))))
 clear hS; intro g16 w17 hS
 refine wn2 ?_
 have hk4:Wd 1 2:=Wd.i64 (by omega) (by omega)
 refine wcl Tryz.call33 (wzof (z:=1) (by omega) (by omega)) (ar1 evc) hS ?_
 clear hS; rintro _ _ w18 ⟨p4,n4,c4,rfl,rfl⟩ hS
 refine wl rfl (oAl [.bool false,.slice none 0 0] hS rfl rfl Tryz.zeroValue28 rfl ?_)
 clear hS; intro g19 w20 hS
 refine wl rfl (oSt _ _ Tryz.sizeOf28 hS 0 rfl rfl (ev rfl rfl) (ev rfl rfl) rfl rfl rfl rfl rfl rfl ?_)
 clear hS; intro w21 hS
 refine wn1 (wSq (wBk ?_))
 replace hS:=hS.nilRowm
 obtain hS:=(show Sep w [.blk g16 [.slice none 0 0] 25,.blk g19 [.bool (ng 1),.slice p4 n4 c4] 28,.rowm none 0 0 ([]),.row p4 n4 c4 (lim (1:Int).natAbs),.blk g1 [.bool bd,.slice pd nd_ cd] 28,.blk g12 [.bool (ng z3),.slice p3 n3 c3] 28,.row p3 n3 c3 (lim z3.natAbs),.blk g5 [.slice none 0 0] 25,.blk g7 [.int .i64 0] 33,.blk g3 [.bool b2,.slice pb nb cb] 28] w21 from hS.pick [3,1,0,2,9,4,5,7,6,8] (by decide) rfl)
 obtain hS:=hS.sub (List.take_sublist 9 _)
 obtain rfl:(2:Int) = z3:=hz3.out
 obtain hS:=(show Sep w ([] ++ CV g16 g19 g1 g12 bd pd nd_ cd n3 c3 p3 none 0 p4 n4 c4 1 [] [.blk g5 [.slice none 0 0] 25,.blk g7 [.int .i64 0] 33]) w21 from hS)
 refine wrange (T:=fun (q:Nat) => Is (.int .u32 (q:Int))) (xs:=prs 4294967295) (R:=[]) rfl Tryz.call69 (falling_iter ht) hS (CI g16 g19 g1 g12 bd pd nd_ cd n3 c3 p3 [.blk g5 [.slice none 0 0] 25,.blk g7 [.int .i64 0] 33]) (CX g16 g19 g1 g12 bd pd nd_ cd n3 c3 p3 [.blk g5 [.slice none 0 0] 25,.blk g7 [.int .i64 0] 33]) ⟨_,_,_,_,_,_,.inl ⟨rfl,rfl⟩,rfl⟩ (CA g16 g19 g1 g12 bd pd nd_ cd n3 c3 p3 [.blk g5 [.slice none 0 0] 25,.blk g7 [.int .i64 0] 33]) ?_ ?_ ?_ ?_
 ·intro l m pre q v9 r9 Rf Rc W hpx hI hT hS
  obtain ⟨rfl,rfl⟩:=hT
  refine rreg ?_
  refine rl rfl rfl (oassign rfl rfl (ev rfl rfl) ?_)
  refine rnil (tNo ?_)
  exact ⟨_,_,rfl,⟨_,rfl,rfl,rfl,rfl,rfl,hI⟩,hS⟩
 ·intro l m pre q f9 Rf R9 W hpx hA hS
  obtain ⟨fa,rfl,hfa2,hfa6,hfa7,hfa8,po,co,pz,nz,cz,z,hpz,rfl⟩:=hA
  rcases hpz with ⟨rfl,rfl⟩ | ⟨rfl,rfl⟩
  ·obtain rfl:q = 4294967291:=by
    obtain ⟨t,ht9⟩:=hpx
    rw [prs_top] at ht9
    exact (List.cons.inj ht9).1
   exact choose_r1 rfl ⟨hfa2,hfa6,hfa7,hfa8,rfl,trivial⟩ hd rfl rfl (CV.mid hS)
  exact choose_r2 rfl ⟨hfa2,hfa6,hfa7,hfa8,rfl,trivial⟩ hd rfl (CV.mid hS)
 ·rintro D Rc W ⟨po,co,pz,nz,cz,z,hpz,rfl⟩ hS
  exfalso
  have h2:=prs_top
  rcases hpz with ⟨h1,_⟩ | ⟨h1,_⟩
  ·rw [h1] at h2; cases h2
  rw [h1] at h2; exact prs_ne (by decide) (List.cons.inj h2).2.symm
 rintro D c pre Rc W hpre ⟨rfl,po,co,pz,nz,cz,rfl⟩ hS
 refine (wEx ?_).out
 refine blkE ?_
 refine tNo ?_
 refine choose_rest rfl ?_ (CV.rest hS)
 exact ⟨rfl,rfl,rfl,trivial⟩
open Go.RowKit
theorem fill1_3s {u a b c:Value} (hu:u.cells = #[u]) (ha:a.cells = #[a]) (hb:b.cells = #[b]) (hc:c.cells = #[c]):Instr.fill (fun i => some (i * 1,1)) ((Array.range (3 * 1)).map (u.cells[· % u.cells.size]!)) #[(0,a),(1,b),(2,c)].toList = some [a,b,c].toArray:=by
 rw [hu]
 simp [Instr.fill,ha,hb,hc,Array.range]
 apply Array.ext
 ·simp
 intro i h1 h2
 have h3:i = 0 ∨ i = 1 ∨ i = 2:=by simp at h2; omega
 rcases h3 with rfl | rfl | rfl <;> simp
theorem fill1_2s {u a b:Value} (hu:u.cells = #[u]) (ha:a.cells = #[a]) (hb:b.cells = #[b]):Instr.fill (fun i => some (i * 1,1)) ((Array.range (2 * 1)).map (u.cells[· % u.cells.size]!)) #[(0,a),(1,b)].toList = some [a,b].toArray:=by
 rw [hu]
 simp [Instr.fill,ha,hb,Array.range]
 apply Array.ext
 ·simp
 intro i h1 h2
 have h3:i = 0 ∨ i = 1:=by simp at h2; omega
 rcases h3 with rfl | rfl <;> simp
theorem TB.two {w:World} {g c1 c2 K:Nat} {t:TypeId} {p1 p2:Option Addr} {a b c d:Int} (h:w.heap[g]? = some (.cells [.slice p1 2 c1,.slice p2 2 c2].toArray t)) (h1:Zs w p1 2 [a,b] K) (h2:Zs w p2 2 [c,d] K):TB w (some ⟨g,0,none⟩) 2 [[a,b],[c,d]] K:=by
 refine ⟨rfl,by decide,fun i L hL => ?_⟩
 have hi:i < 2:=(List.getElem?_eq_some_iff.1 hL).1
 have hb:=box_cells h
 match i,hi with
 | 0,_ =>
  simp at hL; subst hL
  exact ⟨g,0,p1,c1,rfl,fun j v hj => by
   have h0:j = 0:=by have:=(List.getElem?_eq_some_iff.1 hj).1; simp at this; omega
   subst h0
   simp at hj; subst hj
   exact hb 0 _ rfl,h1⟩
 | 1,_ =>
  simp at hL; subst hL
  exact ⟨g,0,p2,c2,rfl,fun j v hj => by
   have h0:j = 0:=by have:=(List.getElem?_eq_some_iff.1 hj).1; simp at this; omega
   subst h0
   simp at hj; subst hj
   exact hb 1 _ rfl,h2⟩
theorem wbcoeffs_aw {p:Option Addr} {c:Nat} {w:World} (hT:TB w p 2 [[1, -2],[3,4]] 67108864) :
  Calls Tryz.prog 8 #[.slice p 2 c] w (Ret (LIe 3 [1,10,21] 0) w):=by
 have h:=wbcoeffs (ct:=c) hT (by intro L hL; simp at hL; rcases hL with rfl | rfl <;> rfl) (by decide) (by decide)
 rwa [show coefs [[1, -2],[3,4]] = [1,10,21] by decide] at h
theorem wd_small {l:List Int} {K:Nat} (hl:∀ z ∈ l, -9223372036854775808 ≤ z ∧ z ≤ 9223372036854775807) (hK:2 ≤ K):∀ z ∈ l,Wd z K:=fun z hz => (Wd.i64 (hl z hz).1 (hl z hz).2).mono hK
theorem wbnum {e:Int} {w:World} :
  Calls Tryz.prog 11 #[.int .i64 e] w (Ret (Is (.int .i64 e)) w):=by
 have hS:=Sep.init w
 refine went Tryz.func11 rfl (n:=4) rfl rfl ?_
 refine wsr (wavc ?_)
 refine wn2 (wmv rfl rfl ?_)
 refine wav rfl rfl ?_
 refine wn1 ?_
 refine wLv ?_
 refine wr1 Tryz.results11 (tlT (v:=.int .i64 e) rfl rfl) ?_
 exact ⟨_,_,rfl,isI,hS.new0⟩
theorem wbawake {w:World} (ht:Tb w) :
  Calls Tryz.prog 6 #[] w (Ret (Is (.bool true)) w):=by
 have hS:=Sep.init w
 refine went Tryz.func6 rfl (n:=45) rfl rfl ?_
 refine wsr (wavc ?_)
 refine wn2 (wl rfl (obslice (ps:=#[(0,.int .i64 1),(1,.int .i64 (-2))]) (z:=.int .i64 0) [.int .i64 1,.int .i64 (-2)] hS rfl rfl Tryz.runUnderlying102 Tryz.sizeOf2 Tryz.zeroValue2 (parts2 (evc (v:=.int .i64 1)) (evc (v:=.int .i64 (-2)))) rfl (by decide) (fill1_2s rfl rfl rfl) ?_))
 clear hS; intro g1 w2 hS
 refine wcl Tryz.call28 (wlintl (L:=[1, -2]) (SJ.blk (L:=[1, -2]) (hS.blkAt 0 rfl) (by decide) (by decide))) (ar1 (ev rfl rfl)) hS ?_
 clear hS; rintro _ _ w3 ⟨pL1,cL1,QL1,hQL1,rfl,rfl⟩ hS
 refine wl rfl (obslice (ps:=#[(0,.int .i64 3),(1,.int .i64 4)]) (z:=.int .i64 0) [.int .i64 3,.int .i64 4] hS rfl rfl Tryz.runUnderlying102 Tryz.sizeOf2 Tryz.zeroValue2 (parts2 (evc (v:=.int .i64 3)) (evc (v:=.int .i64 4))) rfl (by decide) (fill1_2s rfl rfl rfl) ?_)
 clear hS; intro g4 w5 hS
 refine wcl Tryz.call28 (wlintl (L:=[3,4]) (SJ.blk (L:=[3,4]) (hS.blkAt 0 rfl) (by decide) (by decide))) (ar1 (ev rfl rfl)) hS ?_
 clear hS; rintro _ _ w6 ⟨pL2,cL2,QL2,hQL2,rfl,rfl⟩ hS
 refine wl rfl (obslice (ps:=#[(0,.slice pL1 2 cL1),(1,.slice pL2 2 cL2)]) (z:=.slice none 0 0) [.slice pL1 2 cL1,.slice pL2 2 cL2] hS rfl rfl Tryz.runUnderlying22 Tryz.sizeOf32 Tryz.zeroValue32 (parts2 (ev (v:=.slice pL1 2 cL1) rfl rfl) (ev (v:=.slice pL2 2 cL2) rfl rfl)) rfl (by decide) (fill1_2s rfl rfl rfl) ?_)
 clear hS; intro g7 w8 hS
 refine wcl Tryz.call8 (wbcoeffs_aw (TB.two (hS.blkAt 0 rfl) (show Zs _ _ 2 [1, -2] 67108864 from hQL1 ▸ hS.zsl 3 rfl (by decide) (hQL1 ▸ wd_small (by decide) (by decide))) (show Zs _ _ 2 [3,4] 67108864 from hQL2 ▸ hS.zsl 1 rfl (by decide) (hQL2 ▸ wd_small (by decide) (by decide))))) (ar1 (ev rfl rfl)) hS ?_
 clear hS; rintro _ _ w9 ⟨pC,cC,QC,hQC,rfl,rfl⟩ hS
 refine wmv rfl rfl ?_
 refine wl rfl (oEx rfl rfl (ev rfl rfl) rfl ?_)
 refine wl rfl (oEx rfl rfl (ev rfl rfl) rfl ?_)
 refine wav rfl rfl ?_
 refine wav rfl rfl ?_
 refine wn2 ?_
 have hk1:Wd 1 2:=Wd.i64 (by omega) (by omega)
 refine wcl Tryz.call7 (wqof (z:=1) (by omega) (by omega)) (ar1 evc) hS ?_
 clear hS; rintro _ _ w10 ⟨p1,n1,c1,rfl,rfl⟩ hS
 have hk2:Wd 1 2:=Wd.i64 (by omega) (by omega)
 refine wcl Tryz.call7 (wqof (z:=1) (by omega) (by omega)) (ar1 evc) hS ?_
 clear hS; rintro _ _ w11 ⟨p2,n2,c2,rfl,rfl⟩ hS
 refine wcl Tryz.call29 (wchoose11 ((hS.sl 1 rfl).zr hk1) ((hS.sl 0 rfl).zr hk2) (ht.at hS)) (ar2 (ev rfl rfl) (ev rfl rfl)) hS ?_
 clear hS; rintro _ _ w12 ⟨pP,cP,rfl,rfl⟩ hS
 refine wmv rfl rfl ?_
 refine wl rfl (oEx rfl rfl (ev rfl rfl) rfl ?_)
 refine wl rfl (oEx rfl rfl (ev rfl rfl) rfl ?_)
 refine wav rfl rfl ?_
 refine wav rfl rfl ?_
 refine wn2 (wmv rfl rfl ?_)
 refine wcl Tryz.call11 (wbnum) (ar1 (ev rfl rfl)) hS ?_
 clear hS; rintro _ _ w13 ⟨rfl,rfl⟩ hS
 refine wbc (u:=.int .i64 0) (v:=.int .i64 0) (z:=.bool true) rfl rfl (bEq (by decide)) ?_
 refine wmv rfl rfl ?_
 refine wlOn (e:=23) rfl rfl rfl rfl (omove rfl rfl (ev rfl rfl) ?_)
 refine wlOn (e:=23) rfl rfl rfl rfl (obslice (ps:=#[(0,.int .i64 1),(1,.int .i64 10),(2,.int .i64 21)]) (z:=.int .i64 0) [.int .i64 1,.int .i64 10,.int .i64 21] hS rfl rfl Tryz.runUnderlying102 Tryz.sizeOf2 Tryz.zeroValue2 (parts3 (evc (v:=.int .i64 1)) (evc (v:=.int .i64 10)) (evc (v:=.int .i64 21))) rfl (by decide) (fill1_3s rfl rfl rfl rfl) ?_)
 clear hS; intro g14 w15 hS
 refine wlOn (e:=23) rfl rfl rfl rfl (oCl rfl rfl Tryz.call28 rfl (wlintl (L:=[1,10,21]) (SJ.blk (L:=[1,10,21]) (hS.blkAt 0 rfl) (by decide) (by decide))) (ar1 (ev rfl rfl)) ?_)
 rintro _ w16 ⟨_,_,rfl,⟨pL3,cL3,QL3,hQL3,rfl,rfl⟩,hN⟩
 refine ⟨_,rfl,?_⟩
 replace hS:=hS.news hN; clear hN
 refine wlOn (e:=23) rfl rfl rfl rfl (oCl rfl rfl Tryz.call30 rfl (wqSameAll (L:=([1,10,21]:List Int).map fun z => (ng z,lim z.natAbs)) (hQC ▸ hS.zll 5 rfl (by decide) (hQC ▸ wd_small (by decide) (by decide))) (hQL3 ▸ hS.zll 0 rfl (by decide) (hQL3 ▸ wd_small (by decide) (by decide)))) (ar2 (ev rfl rfl) (ev rfl rfl)) ?_)
 rintro _ w17 ⟨_,_,rfl,⟨rfl,rfl⟩,hN⟩
 refine ⟨_,rfl,?_⟩
 replace hS:=hS.news hN; clear hN
 refine wl rfl (opick rfl rfl (ev rfl rfl) (ev rfl rfl) ?_)
 refine wmv rfl rfl ?_
 refine wlOn (e:=29) rfl rfl rfl rfl (omove rfl rfl (ev rfl rfl) ?_)
 refine wlOn (e:=29) rfl rfl rfl rfl (oCl rfl rfl Tryz.call11 rfl (wbnum) (ar1 (ev rfl rfl)) ?_)
 rintro _ w18 ⟨_,_,rfl,⟨rfl,rfl⟩,hN⟩
 refine ⟨_,rfl,?_⟩
 replace hS:=hS.news hN; clear hN
 refine wlOn (e:=29) rfl rfl rfl rfl (obin (u:=.int .i64 0) (v:=.int .i64 0) (z:=.bool true) rfl rfl (ev rfl rfl) evc (bEq (by decide)) ?_)
 refine wl rfl (opick rfl rfl (ev rfl rfl) (ev rfl rfl) ?_)
 refine wmv rfl rfl ?_
 refine wlOn (e:=34) rfl rfl rfl rfl (omove rfl rfl (ev rfl rfl) ?_)
 refine wlOn (e:=34) rfl rfl rfl rfl (olen rfl rfl rfl Tryz.runUnderlying25 (p:=pP) (k:=([4294967291]).length) (m:=cP) (ev rfl rfl) ?_)
 refine wlOn (e:=34) rfl rfl rfl rfl (obin rfl rfl (ev rfl rfl) evc (bEq (eqT rfl)) ?_)
 refine wl rfl (opick rfl rfl (ev rfl rfl) (ev rfl rfl) ?_)
 refine wmv rfl rfl ?_
 refine wlOn (e:=39) rfl rfl rfl rfl (omove rfl rfl (ev rfl rfl) ?_)
 obtain ⟨gq,oq,hpq,hcq⟩:=(hS.slm 2 rfl).cell 0 (by decide)
 refine wlOn (e:=39) rfl rfl rfl rfl (oIx (p:=pP) (g:=gq) (off:=oq) (m:=([4294967291]).length) (k:=0) (j:=(oq + 0)) rfl rfl Tryz.runUnderlying25 Tryz.sizeOf63 (ev rfl rfl) hpq evc (by decide) rfl ?_)
 refine wlOn (e:=39) rfl rfl rfl rfl (oLc one32 rfl rfl (ev rfl rfl) hcq ?_)
 refine wlOn (e:=39) rfl rfl rfl rfl (obin rfl rfl (ev rfl rfl) evc (bEq (eqT rfl)) ?_)
 refine wl rfl (opick rfl rfl (ev rfl rfl) (ev rfl rfl) ?_)
 refine wav rfl rfl ?_
 refine wn1 ?_
 refine wLv ?_
 refine wr1 Tryz.results6 (tlT (v:=.bool true) rfl rfl) ?_
 exact ⟨_,_,rfl,isI,hS.new0⟩
end Go.Proofs.YtnlnibngpeempaaGreatDoor
