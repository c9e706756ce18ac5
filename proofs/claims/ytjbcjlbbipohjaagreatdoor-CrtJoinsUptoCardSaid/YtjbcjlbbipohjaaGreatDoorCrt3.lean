
/-
  crt's Of, Digits, Lift and Recon.
-/
import Derived.Test.YtjbcjlbbipohjaaGreatDoorCrt2
set_option linter.unusedVariables false
set_option linter.unusedSimpArgs false
set_option maxRecDepth 100000
set_option maxHeartbeats 16000000
namespace Go.Proofs.YtjbcjlbbipohjaaGreatDoor
open Go.RowKit
def RWt (x y:Int) (e:Int):Tell:=fun v r => ∃ p n c q m d,v = .tuple #[.agg #[.bool (ng x),.slice p n c,.bool (ng y),.slice q m d],.int .i64 e] ∧ r = [.row p n c (lim x.natAbs),.row q m d (lim y.natAbs)]
def RcT (v m b:Nat):Tell:=fun u r => (rce v m b = 0 ∧ RWt (rcx v m b) (rcy v m b) 0 u r) ∨ (rce v m b ≠ 0 ∧ Is (.tuple #[.agg #[.bool false,.slice none 0 0,.bool false,.slice none 0 0],.int .i64 ((rce v m b:Nat):Int)]) u r)
theorem cmpZ_gtT {a b s:Int} (h:Hid (cmpZ a b = s)) (hab:b < a):decide (0 < s) = true:=by
  rw [← h.out,cmpZ_sign,Int.sign_eq_one_of_pos (by omega)]; rfl
theorem cmpZ_gtF {a b s:Int} (h:Hid (cmpZ a b = s)) (hab:a ≤ b):decide (0 < s) = false:=by
  refine decide_eq_false ?_
  rw [← h.out,cmpZ_sign]
  have:=sign_cases (a - b)
  omega
theorem cmpZ_neT {a b s:Int} (h:Hid (cmpZ a b = s)) (hab:a ≠ b):(s != 0) = true:=by
  have h1:=sign_cases (a - b)
  have h2:=h.out
  rw [cmpZ_sign] at h2
  exact neT (by omega)
theorem cmpZ_neF {a b s:Int} (h:Hid (cmpZ a b = s)) (hab:a = b):(s != 0) = false:=by
  have h1:=sign_cases (a - b)
  have h2:=h.out
  rw [cmpZ_sign] at h2
  exact neF (by omega)
theorem rce_1 {v m b:Nat} (h:¬ (v < m ∧ b * b + b * b < m)):rce v m b = 1:=if_neg h
theorem rce_61 {v m b:Nat} {N D:Int} (hv:v < m) (hb:b * b + b * b < m) (hN:sfix (rcs v m b) = (N,D)) (h:D = 0 ∨ (b:Int) < D ∨ Int.gcd N D ≠ 1 ∨ Int.gcd D m ≠ 1):rce v m b = 61:=by
  unfold rce
  rw [if_pos ⟨hv,hb⟩,hN,if_neg]
  intro hok
  simp only [rcOk,Bool.and_eq_true,decide_eq_true_eq] at hok
  obtain ⟨⟨⟨h1,h2⟩,h3⟩,h4⟩:=hok
  rcases h with h | h | h | h
  · exact h1 h
  · omega
  · exact h h3
  · exact h h4
theorem rce_0 {v m b:Nat} {N D:Int} (hv:v < m) (hb:b * b + b * b < m) (hN:sfix (rcs v m b) = (N,D)) (h1:D ≠ 0) (h2:D ≤ b) (h3:Int.gcd N D = 1) (h4:Int.gcd D m = 1):rce v m b = 0 ∧ rcx v m b = N ∧ rcy v m b = D:=by
 have h0:rce v m b = 0:=by
  unfold rce
  rw [if_pos ⟨hv,hb⟩,hN,if_pos]
  simp [rcOk,h1,h2,h3,h4]
 refine ⟨h0,?_,?_⟩
 ·unfold rcx; rw [if_pos h0,hN]
 ·unfold rcy; rw [if_pos h0,hN]
theorem sfix_neg {x y a c:Int} (h:y < 0) (ha:Hid (-x = a)) (hc:Hid (-y = c)):sfix (x,y) = (a,c):=by
  rw [← ha.out, ← hc.out]; exact if_pos h
theorem sfix_pos {x y:Int} (h:¬ y < 0):sfix (x,y) = (x,y):=if_neg h
theorem wcof {p:Option Addr} {n c:Nat} {L:List (Nat × Nat)} {w:World} (ht:Tb w) (hL:RS w p n L) (h32:∀ x ∈ L,x.1 < 4294967296 ∧ x.2 < 4294967296) (hlen:L.length ≤ 1048576) (hgd:Gd L) :
  Calls Tryz.prog 18 #[.slice p n c] w (Ret (NNEt (cv L).1 (cv L).2 0) w):=by
 have hS:=Sep.init w
 refine went Tryz.func18 rfl (n:=24) rfl rfl ?_
 refine wseq (wreg (wl rfl (oassign (v:=.slice none 0 0) rfl rfl evc ?_)))
 refine wl rfl (oassign (v:=.slice none 0 0) rfl rfl evc ?_)
 refine wl rfl (oassign (v:=.int .i64 0) rfl rfl evc ?_)
 refine wnil (thenN (wseq (wreg (wl rfl (omove (v:=.slice p n c) rfl rfl (ev rfl rfl) ?_)))))
 refine wl rfl (ocall rfl rfl Tryz.call70 rfl (wcall0 (ht.at hS) (hL.at hS) h32 hlen hgd) (args2 (ev rfl rfl) rfl) ?_)
 rintro _ w1 ⟨_,_,rfl,⟨g1,s1,rfl,rfl⟩,hN⟩
 refine ⟨_,rfl,?_⟩
 replace hS:=hS.news hN; clear hN
 refine wl rfl (omove (v:=.tuple #[.pointer (some ⟨g1,0,none⟩),.nilIface]) rfl rfl (ev rfl rfl) ?_)
 refine wl rfl (oextract (vs:=[.pointer (some ⟨g1,0,none⟩),.nilIface]) (v:=.pointer (some ⟨g1,0,none⟩)) rfl rfl (ev rfl rfl) rfl ?_)
 refine wl rfl (oextract (vs:=[.pointer (some ⟨g1,0,none⟩),.nilIface]) (v:=.nilIface) rfl rfl (ev rfl rfl) rfl ?_)
 refine wl rfl (oassign (v:=.pointer (some ⟨g1,0,none⟩)) rfl rfl (ev rfl rfl) ?_)
 refine wl rfl (oassign (v:=.nilIface) rfl rfl (ev rfl rfl) ?_)
 refine wnil (thenN (wseq (wseq ?_)))
 obtain ⟨pV,nV,cV,pM,nM,cM,pP,cP,pD,cD,gm⟩:=s1
 obtain hS:=(show Sep w [.blk g1 [.slice pV nV cV,.slice pM nM cM,.slice pP L.length cP,.slice pD L.length cD,.map (some gm)] 93,.rowm pV nV cV (lim (cv L).1),.rowm pM nM cM (lim (cv L).2),.lst 42 2 pP L.length cP (rpE (rps L)),.lst 40 1 pD L.length cD (dgE (dgs L)),.mp Tryz.prog 40 3 gm (mods L)] w1 from hS.unpack)
 refine wreg (wl rfl (omove (v:=.nilIface) rfl rfl (ev rfl rfl) ?_))
 refine wl rfl (obin (u:=.nilIface) (v:=.nilIface) (z:=.bool false) rfl rfl (ev rfl rfl) evc (bin_neqI0 Tryz.underlying103) ?_)
 refine wnil (thenN ?_)
 refine wF (ev rfl rfl) ?_
 refine wskip (thenN (wseq ?_))
 refine wstage 11 [16,17,18,19,20,21,22,23,2,3,4] [[],[0],[1,0],[2,0,1],[],[4],[5,4],[6,4,5],[3,0,1,2],[7,0,1,2,3,4,5,6,8],[0,1,2,3,4,5,6,7,8,9]] [[],[],[],[],[],[],[],[],[],[],[]] [] [] (fun i9 => ([fun _ => Is (.pointer (some ⟨g1,0,none⟩)),fun _ => Is (.pointer (some ⟨g1,0,none⟩)),fun _ => Is (.pointer (some ⟨g1,0,none⟩)),fun _ => Is (.slice pV nV cV),fun _ => Is (.pointer (some ⟨g1,0,none⟩)),fun _ => Is (.pointer (some ⟨g1,0,none⟩)),fun _ => Is (.pointer (some ⟨g1,1,none⟩)),fun _ => Is (.slice pM nM cM),fun _ => Is (.slice pV nV cV),fun _ => Is (.slice pM nM cM),fun _ => Is (.int .i64 0)]:List (List Value → Tell)).getD i9 (fun _ _ _ => False)) (heldNil) (fun d _ _ _ _ h => (by cases d <;> exact h)) (by kernel_rfl) (by kernel_rfl) (by kernel_rfl) hS ?_ ?_
 ·
  refine stepsCons rfl (fun Q f' w' ρ S ho hT hS hB => ?_) ?_
  ·exact .inl ⟨want_none rfl,omove (v:=.pointer (some ⟨g1,0,none⟩)) rfl rfl (ev rfl (ho 5 rfl)) ⟨_,_,rfl,isI,New.same _⟩⟩
  refine stepsCons rfl (fun Q f' w' ρ S ho hT hS hB => ?_) ?_
  ·obtain ⟨hv0,hr0⟩:=(hT 0 16 rfl rfl:(Is (.pointer (some ⟨g1,0,none⟩))) _ _)
   obtain hS:=hS.flat1 hr0
   exact .inl ⟨want_none rfl,onilCheck (a:=⟨g1,0,none⟩) rfl rfl (ev rfl hv0) ⟨_,_,rfl,isI,New.same _⟩⟩
  refine stepsCons rfl (fun Q f' w' ρ S ho hT hS hB => ?_) ?_
  ·obtain ⟨hv1,hr1⟩:=(hT 1 17 rfl rfl:(Is (.pointer (some ⟨g1,0,none⟩))) _ _)
   obtain hS:=hS.flat1 hr1
   exact .inl ⟨want_none rfl,ofieldAddr (g:=g1) (off:=0) 0 rfl rfl (ev rfl hv1) Tryz.runUnderlying93 rfl Tryz.sizeOf26 rfl ⟨_,_,rfl,isI,New.same _⟩⟩
  refine stepsCons rfl (fun Q f' w' ρ S ho hT hS hB => ?_) ?_
  ·obtain ⟨hv2,hr2⟩:=(hT 2 18 rfl rfl:(Is (.pointer (some ⟨g1,0,none⟩))) _ _)
   obtain hS:=hS.flat1 hr2
   exact .inl ⟨want_none rfl,oload1 (v:=.slice pV nV cV) oneN hS 0 rfl rfl (ev rfl hv2) rfl rfl ⟨_,_,rfl,isI,New.same _⟩⟩
  refine stepsCons rfl (fun Q f' w' ρ S ho hT hS hB => ?_) ?_
  ·exact .inl ⟨want_none rfl,omove (v:=.pointer (some ⟨g1,0,none⟩)) rfl rfl (ev rfl (ho 5 rfl)) ⟨_,_,rfl,isI,New.same _⟩⟩
  refine stepsCons rfl (fun Q f' w' ρ S ho hT hS hB => ?_) ?_
  ·obtain ⟨hv4,hr4⟩:=(hT 4 20 rfl rfl:(Is (.pointer (some ⟨g1,0,none⟩))) _ _)
   obtain hS:=hS.flat1 hr4
   exact .inl ⟨want_none rfl,onilCheck (a:=⟨g1,0,none⟩) rfl rfl (ev rfl hv4) ⟨_,_,rfl,isI,New.same _⟩⟩
  refine stepsCons rfl (fun Q f' w' ρ S ho hT hS hB => ?_) ?_
  ·obtain ⟨hv5,hr5⟩:=(hT 5 21 rfl rfl:(Is (.pointer (some ⟨g1,0,none⟩))) _ _)
   obtain hS:=hS.flat1 hr5
   exact .inl ⟨want_none rfl,ofieldAddr (g:=g1) (off:=0) 1 rfl rfl (ev rfl hv5) Tryz.runUnderlying93 rfl Tryz.sizeOf26 rfl ⟨_,_,rfl,isI,New.same _⟩⟩
  refine stepsCons rfl (fun Q f' w' ρ S ho hT hS hB => ?_) ?_
  ·obtain ⟨hv6,hr6⟩:=(hT 6 22 rfl rfl:(Is (.pointer (some ⟨g1,1,none⟩))) _ _)
   obtain hS:=hS.flat1 hr6
   exact .inl ⟨want_none rfl,oload1 (v:=.slice pM nM cM) oneN hS 0 rfl rfl (ev rfl hv6) rfl rfl ⟨_,_,rfl,isI,New.same _⟩⟩
  refine stepsCons rfl (fun Q f' w' ρ S ho hT hS hB => ?_) ?_
  ·obtain ⟨hv3,hr3⟩:=(hT 3 19 rfl rfl:(Is (.slice pV nV cV)) _ _)
   obtain hS:=hS.flat1 hr3
   exact .inl ⟨want_none rfl,oassign (v:=.slice pV nV cV) rfl rfl (ev rfl hv3) ⟨_,_,rfl,isI,New.same _⟩⟩
  refine stepsCons rfl (fun Q f' w' ρ S ho hT hS hB => ?_) ?_
  ·obtain ⟨hv7,hr7⟩:=(hT 7 23 rfl rfl:(Is (.slice pM nM cM)) _ _)
   obtain hS:=hS.flat1 hr7
   exact .inl ⟨want_none rfl,oassign (v:=.slice pM nM cM) rfl rfl (ev rfl hv7) ⟨_,_,rfl,isI,New.same _⟩⟩
  refine stepsCons rfl (fun Q f' w' ρ S ho hT hS hB => ?_) ?_
  ·exact .inl ⟨want_none rfl,oassign (v:=.int .i64 0) rfl rfl evc ⟨_,_,rfl,isI,New.same _⟩⟩
  exact stepsNil
 ·
  intro vs ρ w2 f' hf hT hS
  obtain ⟨hv0,hr0⟩:=(hT 0 (by decide):(Is (.pointer (some ⟨g1,0,none⟩))) _ _)
  obtain ⟨hv1,hr1⟩:=(hT 1 (by decide):(Is (.pointer (some ⟨g1,0,none⟩))) _ _)
  obtain ⟨hv2,hr2⟩:=(hT 2 (by decide):(Is (.pointer (some ⟨g1,0,none⟩))) _ _)
  obtain ⟨hv3,hr3⟩:=(hT 3 (by decide):(Is (.slice pV nV cV)) _ _)
  obtain ⟨hv4,hr4⟩:=(hT 4 (by decide):(Is (.pointer (some ⟨g1,0,none⟩))) _ _)
  obtain ⟨hv5,hr5⟩:=(hT 5 (by decide):(Is (.pointer (some ⟨g1,0,none⟩))) _ _)
  obtain ⟨hv6,hr6⟩:=(hT 6 (by decide):(Is (.pointer (some ⟨g1,1,none⟩))) _ _)
  obtain ⟨hv7,hr7⟩:=(hT 7 (by decide):(Is (.slice pM nM cM)) _ _)
  obtain ⟨hv8,hr8⟩:=(hT 8 (by decide):(Is (.slice pV nV cV)) _ _)
  obtain ⟨hv9,hr9⟩:=(hT 9 (by decide):(Is (.slice pM nM cM)) _ _)
  obtain ⟨hv10,hr10⟩:=(hT 10 (by decide):(Is (.int .i64 0)) _ _)
  simp only [pool,if_true,hr0,hr1,hr2,hr3,hr4,hr5,hr6,hr7,hr8,hr9,hr10,List.nil_append,List.cons_append,List.append_nil] at hS
  simp only [layf,hv0,hv1,hv2,hv3,hv4,hv5,hv6,hv7,hv8,hv9,hv10] at hf
  subst hf; clear hT hv0 hv1 hv2 hv3 hv4 hv5 hv6 hv7 hv8 hv9 hv10 hr0 hr1 hr2 hr3 hr4 hr5 hr6 hr7 hr8 hr9 hr10
  refine wdone rfl ?_
  refine thenN ?_
  refine wleave ?_
  refine wret3 Tryz.results18 (tellT (v:=.slice pV nV cV) rfl rfl) (tellT (v:=.slice pM nM cM) rfl rfl) (tellT (v:=.int .i64 0) rfl rfl) ?_
  exact ⟨_,_,rfl,⟨_,_,_,_,_,_,rfl,rfl⟩,(show Sep w [.rowm pV nV cV (lim (cv L).1),.rowm pM nM cM (lim (cv L).2)] w2 from hS.pick [1,2] (by decide) rfl).new rfl⟩
theorem wcrecon {pv pm pb:Option Addr} {nv cv nm cm nb cb v m b:Nat} {w:World} (hv:Nr w pv nv cv v 2097152) (hm:Nr w pm nm cm m 2097152) (hb:Nr w pb nb cb b 2097152) (h0:rce v m b = 0) :
  Calls Tryz.prog 15 #[.slice pv nv cv,.slice pm nm cm,.slice pb nb cb] w (Ret (RWt (rcx v m b) (rcy v m b) 0) w):=by
 have hzv:=hv.zr
 have hzm:=hm.zr
 have hzb:=hb.zr
 have hS:=Sep.init w
 refine went Tryz.func15 rfl (n:=102) rfl rfl ?_
 refine wseq (wreg (wl rfl (oalloc [.bool false,.slice none 0 0,.bool false,.slice none 0 0] hS rfl rfl Tryz.zeroValue30 rfl ?_)))
 clear hS; intro g1 w2 hS
 refine wl rfl (oassign (v:=.int .i64 0) rfl rfl evc ?_)
 refine wnil (thenN (wseq (wreg (wl rfl (omove (v:=.slice pb nb cb) rfl rfl (ev rfl rfl) ?_)))))
 refine wl rfl (omove (v:=.slice pb nb cb) rfl rfl (ev rfl rfl) ?_)
 obtain ⟨x1,hx1⟩:∃ x:Nat,Hid (b * b = x):=⟨_,rfl⟩
 have hkx1:ll x1 ≤ 4194304:=Nd.mul hb.ll hb.ll hx1 (by omega)
 refine wl rfl (ocall rfl rfl Tryz.call56 rfl (wnmul ((hb.at hS).mono (by omega)) ((hb.at hS).mono (by omega)) hx1) (args2 (ev rfl rfl) (ev rfl rfl)) ?_)
 rintro _ w3 ⟨_,_,rfl,⟨p1,n1,c1,rfl,rfl⟩,hN⟩
 refine ⟨_,rfl,?_⟩
 replace hS:=hS.news hN; clear hN
 refine wl rfl (oassign (v:=.slice p1 n1 c1) rfl rfl (ev rfl rfl) ?_)
 refine wnil (thenN (wseq (wseq (wreg (wl rfl (omove (v:=.slice pv nv cv) rfl rfl (ev rfl rfl) ?_))))))
 refine wl rfl (omove (v:=.slice pm nm cm) rfl rfl (ev rfl rfl) ?_)
 obtain ⟨s2,hs2⟩:∃ z:Int,Hid (cmpN v m = z):=⟨_,rfl⟩
 refine wl rfl (ocall rfl rfl Tryz.call57 rfl (wncmp (hv.at hS) (hm.at hS) hs2) (args2 (ev rfl rfl) (ev rfl rfl)) ?_)
 rintro _ w4 ⟨_,_,rfl,⟨rfl,rfl⟩,hN⟩
 refine ⟨_,rfl,?_⟩
 replace hS:=hS.news hN; clear hN
 have hq1:=hx1.out
 by_cases hvm:v < m
 ·
  refine wl rfl (obin (u:=.int .i64 s2) (v:=.int .i64 0) (z:=.bool false) rfl rfl (ev rfl rfl) evc (bin_geq (decide_eq_false (by rw [← hs2.out]; have:=cmpN_below hvm; omega))) ?_)
  refine wl rfl (omove (v:=.bool false) rfl rfl (ev rfl rfl) ?_)
  refine wlOn (e:=25) rfl rfl rfl rfl (omove (v:=.slice p1 n1 c1) rfl rfl (ev rfl rfl) ?_)
  refine wlOn (e:=25) rfl rfl rfl rfl (omove (v:=.slice p1 n1 c1) rfl rfl (ev rfl rfl) ?_)
  obtain ⟨x3,hx3⟩:∃ x:Nat,Hid (x1 + x1 = x):=⟨_,rfl⟩
  have hkx3:ll x3 ≤ 4194305:=Nd.add hkx1 hkx1 hx3 (by omega)
  refine wlOn (e:=25) rfl rfl rfl rfl (ocall rfl rfl Tryz.call58 rfl (wnadd (((hS.sl 0 rfl).nr hkx1).mono (by omega)) (((hS.sl 0 rfl).nr hkx1).mono (by omega)) hx3) (args2 (ev rfl rfl) (ev rfl rfl)) ?_)
  rintro _ w5 ⟨_,_,rfl,⟨p3,n3,c3,rfl,rfl⟩,hN⟩
  refine ⟨_,rfl,?_⟩
  replace hS:=hS.news hN; clear hN
  refine wlOn (e:=25) rfl rfl rfl rfl (omove (v:=.slice pm nm cm) rfl rfl (ev rfl rfl) ?_)
  obtain ⟨s4,hs4⟩:∃ z:Int,Hid (cmpN x3 m = z):=⟨_,rfl⟩
  refine wlOn (e:=25) rfl rfl rfl rfl (ocall rfl rfl Tryz.call57 rfl (wncmp ((hS.sl 0 rfl).nr hkx3) (hm.at hS) hs4) (args2 (ev rfl rfl) (ev rfl rfl)) ?_)
  rintro _ w6 ⟨_,_,rfl,⟨rfl,rfl⟩,hN⟩
  refine ⟨_,rfl,?_⟩
  replace hS:=hS.news hN; clear hN
  have hq3:=hx3.out
  by_cases hx3m:x3 < m
  ·
   refine wlOn (e:=25) rfl rfl rfl rfl (obin (u:=.int .i64 s4) (v:=.int .i64 0) (z:=.bool false) rfl rfl (ev rfl rfl) evc (bin_geq (decide_eq_false (by rw [← hs4.out]; have:=cmpN_below hx3m; omega))) ?_)
   refine wl rfl (opick (b:=false) (v:=.bool false) rfl rfl (ev rfl rfl) (ev rfl rfl) ?_)
   refine wnil (thenN ?_)
   refine wF (ev rfl rfl) ?_
   refine wskip (thenN (wseq (wreg (wl rfl (omove (v:=.slice pm nm cm) rfl rfl (ev rfl rfl) ?_)))))
   refine wl rfl (obuild (ps:=#[(1,.slice pm nm cm)]) (v:=.agg #[.bool false,.slice pm nm cm]) rfl rfl (parts1 (ev (v:=.slice pm nm cm) rfl rfl)) (fun w => by simp [go_sem,Instr.build,Instr.fill]) ?_)
   refine wl rfl (omove (v:=.slice pv nv cv) rfl rfl (ev rfl rfl) ?_)
   refine wl rfl (obuild (ps:=#[(1,.slice pv nv cv)]) (v:=.agg #[.bool false,.slice pv nv cv]) rfl rfl (parts1 (ev (v:=.slice pv nv cv) rfl rfl)) (fun w => by simp [go_sem,Instr.build,Instr.fill]) ?_)
   refine wl rfl (oalloc [.bool false,.slice none 0 0] hS rfl rfl Tryz.zeroValue28 rfl ?_)
   clear hS; intro g7 w8 hS
   refine wl rfl (oalloc [.bool false,.slice none 0 0] hS rfl rfl Tryz.zeroValue28 rfl ?_)
   clear hS; intro g9 w10 hS
   refine wl rfl (ostore [.bool false,.slice pm nm cm] [.bool false,.slice pm nm cm] Tryz.sizeOf28 hS 1 rfl rfl (ev rfl rfl) (ev (v:=.agg #[.bool false,.slice pm nm cm]) rfl rfl) rfl rfl rfl rfl rfl rfl ?_)
   clear hS; intro w11 hS
   refine wl rfl (ostore [.bool false,.slice pv nv cv] [.bool false,.slice pv nv cv] Tryz.sizeOf28 hS 0 rfl rfl (ev rfl rfl) (ev (v:=.agg #[.bool false,.slice pv nv cv]) rfl rfl) rfl rfl rfl rfl rfl rfl ?_)
   clear hS; intro w12 hS
   refine wnil (thenN (wseq (wreg ?_)))
   have hk5:Wd 0 2:=Wd.i64 (by omega) (by omega)
   refine wl rfl (ocall rfl rfl Tryz.call59 rfl (wzof (z:=0) (by omega) (by omega)) (args1 evc) ?_)
   rintro _ w13 ⟨_,_,rfl,⟨p5,n5,c5,rfl,rfl⟩,hN⟩
   refine ⟨_,rfl,?_⟩
   replace hS:=hS.news hN; clear hN
   have hk6:Wd 1 2:=Wd.i64 (by omega) (by omega)
   refine wl rfl (ocall rfl rfl Tryz.call59 rfl (wzof (z:=1) (by omega) (by omega)) (args1 evc) ?_)
   rintro _ w14 ⟨_,_,rfl,⟨p6,n6,c6,rfl,rfl⟩,hN⟩
   refine ⟨_,rfl,?_⟩
   replace hS:=hS.news hN; clear hN
   refine wl rfl (oalloc [.bool false,.slice none 0 0] hS rfl rfl Tryz.zeroValue28 rfl ?_)
   clear hS; intro g15 w16 hS
   refine wl rfl (oalloc [.bool false,.slice none 0 0] hS rfl rfl Tryz.zeroValue28 rfl ?_)
   clear hS; intro g17 w18 hS
   refine wl rfl (ostore [.bool (ng 0),.slice p5 n5 c5] [.bool (ng 0),.slice p5 n5 c5] Tryz.sizeOf28 hS 1 rfl rfl (ev rfl rfl) (ev (v:=.agg #[.bool (ng 0),.slice p5 n5 c5]) rfl rfl) rfl rfl rfl rfl rfl rfl ?_)
   clear hS; intro w19 hS
   refine wl rfl (ostore [.bool (ng 1),.slice p6 n6 c6] [.bool (ng 1),.slice p6 n6 c6] Tryz.sizeOf28 hS 0 rfl rfl (ev rfl rfl) (ev (v:=.agg #[.bool (ng 1),.slice p6 n6 c6]) rfl rfl) rfl rfl rfl rfl rfl rfl ?_)
   clear hS; intro w20 hS
   refine wnil (thenN (wseq (wreg (wl rfl (omove (v:=.slice pb nb cb) rfl rfl (ev rfl rfl) ?_)))))
   refine wl rfl (obuild (ps:=#[(1,.slice pb nb cb)]) (v:=.agg #[.bool false,.slice pb nb cb]) rfl rfl (parts1 (ev (v:=.slice pb nb cb) rfl rfl)) (fun w => by simp [go_sem,Instr.build,Instr.fill]) ?_)
   refine wl rfl (oalloc [.bool false,.slice none 0 0] hS rfl rfl Tryz.zeroValue28 rfl ?_)
   clear hS; intro g21 w22 hS
   refine wl rfl (ostore [.bool false,.slice pb nb cb] [.bool false,.slice pb nb cb] Tryz.sizeOf28 hS 0 rfl rfl (ev rfl rfl) (ev (v:=.agg #[.bool false,.slice pb nb cb]) rfl rfl) rfl rfl rfl rfl rfl rfl ?_)
   clear hS; intro w23 hS
   refine wnil (thenN (wseq (wblock ?_)))
   have hbm:b * b + b * b < m:=by omega
   have hq:=hzm
   obtain ⟨l0ra,hl0ra,he0ra,hm0ra⟩:=hq
   replace hS:=hS.addArg hl0ra rfl
   have hq:=hzv
   obtain ⟨l0rb,hl0rb,he0rb,hm0rb⟩:=hq
   replace hS:=hS.addArg hl0rb rfl
   refine wloop (σ := Nat) (fun k a9 w' => ∃ (fb:Nat → Value) (ra:Int) (rb:Int) (xa:Int) (xb:Int) (pra:Option Addr) (nra:Nat) (cra:Nat) (prb:Option Addr) (nrb:Nat) (crb:Nat) (pxa:Option Addr) (nxa:Nat) (cxa:Nat) (pxb:Option Addr) (nxb:Nat) (cxb:Nat) (lra:List Nat) (lrb:List Nat) (bra:Bool) (brb:Bool),a9 = act 102 (sets fb [(1,.slice pm nm cm),(6,.pointer (some ⟨g1,0,none⟩)),(7,.int .i64 0),(9,.pointer (some ⟨g7,0,none⟩)),(10,.pointer (some ⟨g9,0,none⟩)),(11,.pointer (some ⟨g15,0,none⟩)),(12,.pointer (some ⟨g17,0,none⟩)),(13,.pointer (some ⟨g21,0,none⟩))]) ∧ Sep w [.rd prb nrb crb lrb,.rd pra nra cra lra,.blk g21 [.bool false,.slice pb nb cb] 28,.blk g17 [.bool (ng xb),.slice pxb nxb cxb] 28,.blk g15 [.bool (ng xa),.slice pxa nxa cxa] 28,.row pxb nxb cxb (lim xb.natAbs),.row pxa nxa cxa (lim xa.natAbs),.blk g9 [.bool brb,.slice prb nrb crb] 28,.blk g7 [.bool bra,.slice pra nra cra] 28,.row p3 n3 c3 (lim x3),.row p1 n1 c1 (lim x1),.blk g1 [.bool false,.slice none 0 0,.bool false,.slice none 0 0] 30] w' ∧ (Steps3 (v:Int) (m:Int) ra rb xa xb) ∧ (rgo (b:Int) rb.natAbs ra rb xa xb = rcs v m b) ∧ (rb.natAbs = k) ∧ (Wd ra 2097152) ∧ (Wd rb 2097152) ∧ (Wd xa 2097152) ∧ (Wd xb 2097152) ∧ (zv bra (val lra) = ra) ∧ (nra ≤ 2097152) ∧ (zv brb (val lrb) = rb) ∧ (nrb ≤ 2097152)) (fun k => k) (v) ⟨_,(m:Int),(v:Int),0,1,_,_,_,_,_,_,_,_,_,_,_,_,_,_,false,false,act_sets (l:=[(1,.slice pm nm cm),(6,.pointer (some ⟨g1,0,none⟩)),(7,.int .i64 0),(9,.pointer (some ⟨g7,0,none⟩)),(10,.pointer (some ⟨g9,0,none⟩)),(11,.pointer (some ⟨g15,0,none⟩)),(12,.pointer (some ⟨g17,0,none⟩)),(13,.pointer (some ⟨g21,0,none⟩))]) ⟨rfl,rfl,rfl,rfl,rfl,rfl,rfl,rfl,trivial⟩,hS,Steps3.startI (by omega) (by omega) (by omega),rfl,rfl,(hzm.wd).mono (by omega),(hzv.wd).mono (by omega),(hk5).mono (by omega),(hk6).mono (by omega),he0ra,(Nat.le_trans hm0ra (by omega)),he0rb,(Nat.le_trans hm0rb (by omega))⟩ ?_
   clear hS; rintro k _ w24 ⟨fb,ra,rb,xa,xb,pra,nra,cra,prb,nrb,crb,pxa,nxa,cxa,pxb,nxb,cxb,lra,lrb,bra,brb,rfl,hS,hst,hT,hmu,hkra,hkrb,hkxa,hkxb,hvra,hnra,hvrb,hnrb⟩
   refine wseq (wseq (wreg (wl rfl (oload (vs:=[.bool brb,.slice prb nrb crb]) aggZ hS 7 rfl rfl (ev rfl rfl) rfl rfl rfl ?_))))
   refine wl rfl (oload (vs:=[.bool false,.slice pb nb cb]) aggZ hS 2 rfl rfl (ev rfl rfl) rfl rfl rfl ?_)
   obtain ⟨s7,hs7⟩:∃ z:Int,Hid (cmpZ rb (((b:Nat):Int)) = z):=⟨_,rfl⟩
   refine wl rfl (ocall rfl rfl Tryz.call60 rfl (wzcmp ((show Zr _ _ _ _ _ rb 2097152 from ⟨_,hS.rdAt 0 rfl,hvrb,hnrb⟩).mono (by omega)) ((hzb.at hS).mono (by omega)) hs7) (args2 (ev rfl rfl) (ev rfl rfl)) ?_)
   rintro _ w25 ⟨_,_,rfl,⟨rfl,rfl⟩,hN⟩
   refine ⟨_,rfl,?_⟩
   replace hS:=hS.news hN; clear hN
   by_cases hle:rb ≤ ((b:Nat):Int)
   ·
    refine wl rfl (obin (u:=.int .i64 s7) (v:=.int .i64 0) (z:=.bool false) rfl rfl (ev rfl rfl) evc (bin_gtr (cmpZ_gtF hs7 (by omega))) ?_)
    refine wnil (thenN ?_)
    refine wF (ev rfl rfl) ?_
    refine wexit ?_
    refine thenE ?_
    refine thenE ?_
    refine blkE ?_
    refine thenN ?_
    have hTe:rcs v m b = (rb,xb):=by rw [← hT,rgo_end hle]
    refine wjoin (I:=fun a9 w' => ∃ (fb:Nat → Value) (N:Int) (D:Int) (pN:Option Addr) (nN:Nat) (cN:Nat) (pD:Option Addr) (nD:Nat) (cD:Nat) (lN:List Nat) (bN:Bool),a9 = act 102 (sets fb [(1,.slice pm nm cm),(6,.pointer (some ⟨g1,0,none⟩)),(7,.int .i64 0),(10,.pointer (some ⟨g9,0,none⟩)),(12,.pointer (some ⟨g17,0,none⟩)),(13,.pointer (some ⟨g21,0,none⟩))]) ∧ Sep w [.rd pN nN cN lN,.rd pra nra cra lra,.blk g21 [.bool false,.slice pb nb cb] 28,.blk g17 [.bool (ng D),.slice pD nD cD] 28,.blk g15 [.bool (ng xa),.slice pxa nxa cxa] 28,.row pD nD cD (lim D.natAbs),.row pxa nxa cxa (lim xa.natAbs),.blk g9 [.bool bN,.slice pN nN cN] 28,.blk g7 [.bool bra,.slice pra nra cra] 28,.row p3 n3 c3 (lim x3),.row p1 n1 c1 (lim x1),.blk g1 [.bool false,.slice none 0 0,.bool false,.slice none 0 0] 30] w' ∧ (sfix (rcs v m b) = (N,D)) ∧ (Wd N 2097152) ∧ (Wd D 2097152) ∧ (zv bN (val lN) = N) ∧ (nN ≤ 2097152)) ?_ ?_
    ·
     refine wseq (wreg (wl rfl (oload (vs:=[.bool (ng xb),.slice pxb nxb cxb]) aggZ hS 3 rfl rfl (ev rfl rfl) rfl rfl rfl ?_)))
     obtain ⟨s8,hs8⟩:∃ z:Int,Hid ((xb:Int).sign = z):=⟨_,rfl⟩
     refine wl rfl (ocall rfl rfl Tryz.call64 rfl (wzsign (((hS.sl 5 rfl).zr hkxb).mono (by omega)) hs8) (args1 (ev rfl rfl)) ?_)
     rintro _ w26 ⟨_,_,rfl,⟨rfl,rfl⟩,hN⟩
     refine ⟨_,rfl,?_⟩
     replace hS:=hS.news hN; clear hN
     refine wl rfl (obin (u:=.int .i64 s8) (v:=.int .i64 0) (z:=.bool (decide (s8 < 0))) rfl rfl (ev rfl rfl) evc (bin_lss (rfl)) ?_)
     refine wnil (thenN ?_)
     by_cases hneg:xb < 0
     ·
      skip
      refine wT ((ev (v:=.bool (decide (s8 < 0))) rfl rfl).trans (congrArg Value.bool (ltT (sgn_neg hs8 hneg)))) ?_
      obtain ⟨z9,hz9⟩:∃ z:Int,Hid (-rb = z):=⟨_,rfl⟩
      have hk9:Wd z9 2097152:=Wd.neg hkrb hz9
      obtain ⟨z10,hz10⟩:∃ z:Int,Hid (-xb = z):=⟨_,rfl⟩
      have hk10:Wd z10 2097152:=Wd.neg hkxb hz10
      refine wstage 4 [64,65,66,67] [[],[0],[],[2,0,1]] [[],[],[],[]] [] [] (fun i9 => ([fun _ => Is (.agg #[.bool brb,.slice prb nrb crb]),fun _ => Zt z9,fun _ => Is (.agg #[.bool (ng xb),.slice pxb nxb cxb]),fun _ => Zt z10]:List (List Value → Tell)).getD i9 (fun _ _ _ => False)) (heldNil) (fun d _ _ _ _ h => (by cases d <;> exact h)) (by kernel_rfl) (by kernel_rfl) (by kernel_rfl) hS ?_ ?_
      ·
       refine stepsCons rfl (fun Q f' w' ρ S ho hT hS hB => ?_) ?_
       ·exact .inl ⟨want_none rfl,oload (vs:=[.bool brb,.slice prb nrb crb]) aggZ hS 7 rfl rfl (ev rfl (ho 10 rfl)) rfl rfl rfl ⟨_,_,rfl,isI,New.same _⟩⟩
       refine stepsCons rfl (fun Q f' w' ρ S ho hT hS hB => ?_) ?_
       ·obtain ⟨hv0,hr0⟩:=(hT 0 64 rfl rfl:(Is (.agg #[.bool brb,.slice prb nrb crb])) _ _)
        obtain hS:=hS.flat1 hr0
        exact .inl ⟨want_none rfl,ocall rfl rfl Tryz.call65 rfl (wzneg ((show Zr _ _ _ _ _ rb 2097152 from ⟨_,hS.rdAt 0 rfl,hvrb,hnrb⟩).mono (by omega)) hz9) (args1 (ev rfl hv0)) callN⟩
       refine stepsCons rfl (fun Q f' w' ρ S ho hT hS hB => ?_) ?_
       ·exact .inl ⟨want_none rfl,oload (vs:=[.bool (ng xb),.slice pxb nxb cxb]) aggZ hS 3 rfl rfl (ev rfl (ho 12 rfl)) rfl rfl rfl ⟨_,_,rfl,isI,New.same _⟩⟩
       refine stepsCons rfl (fun Q f' w' ρ S ho hT hS hB => ?_) ?_
       ·obtain ⟨hv2,hr2⟩:=(hT 2 66 rfl rfl:(Is (.agg #[.bool (ng xb),.slice pxb nxb cxb])) _ _)
        obtain hS:=hS.flat1 hr2
        exact .inl ⟨want_none rfl,ocall rfl rfl Tryz.call65 rfl (wzneg (((hS.sl 5 rfl).zr hkxb).mono (by omega)) hz10) (args1 (ev rfl hv2)) callN⟩
       exact stepsNil
      ·
       intro vs ρ w27 f' hf hT hS
       obtain ⟨hv0,hr0⟩:=(hT 0 (by decide):(Is (.agg #[.bool brb,.slice prb nrb crb])) _ _)
       obtain ⟨p9,n9,c9,hv1,hr1⟩:=(hT 1 (by decide):(Zt z9) _ _)
       obtain ⟨hv2,hr2⟩:=(hT 2 (by decide):(Is (.agg #[.bool (ng xb),.slice pxb nxb cxb])) _ _)
       obtain ⟨p10,n10,c10,hv3,hr3⟩:=(hT 3 (by decide):(Zt z10) _ _)
       simp only [pool,if_true,hr0,hr1,hr2,hr3,List.nil_append,List.cons_append,List.append_nil] at hS
       simp only [layf,hv0,hv1,hv2,hv3] at hf
       subst hf; clear hT hv0 hv1 hv2 hv3 hr0 hr1 hr2 hr3
       refine wlate 4 rfl (by kernel_rfl) (ostore [.bool (ng z9),.slice p9 n9 c9] [.bool (ng z9),.slice p9 n9 c9] Tryz.sizeOf28 hS 9 rfl rfl (ev rfl rfl) (ev (v:=.agg #[.bool (ng z9),.slice p9 n9 c9]) rfl rfl) rfl rfl rfl rfl rfl rfl ?_)
       clear hS; intro w28 hS
       refine ⟨heldNil,?_⟩
       refine wlate 5 rfl (by kernel_rfl) (ostore [.bool (ng z10),.slice p10 n10 c10] [.bool (ng z10),.slice p10 n10 c10] Tryz.sizeOf28 hS 5 rfl rfl (ev rfl rfl) (ev (v:=.agg #[.bool (ng z10),.slice p10 n10 c10]) rfl rfl) rfl rfl rfl rfl rfl rfl ?_)
       clear hS; intro w29 hS
       refine ⟨heldNil,?_⟩
       refine wdone rfl ?_
       refine thenN ?_
       have hln9:n9 ≤ 2097152:=by rw [(hS.sl 1 rfl).lln]; exact hk9.mono (by omega)
       replace hS:=hS.asRd 1 rfl
       exact ⟨_,z9,z10,_,_,_,_,_,_,_,ng z9,act_sets (l:=[(1,.slice pm nm cm),(6,.pointer (some ⟨g1,0,none⟩)),(7,.int .i64 0),(10,.pointer (some ⟨g9,0,none⟩)),(12,.pointer (some ⟨g17,0,none⟩)),(13,.pointer (some ⟨g21,0,none⟩))]) ⟨rfl,rfl,rfl,rfl,rfl,rfl,trivial⟩,hS.pick [1,3,4,5,6,0,8,9,10,11,12,13] (by decide) rfl,by rw [hTe]; exact sfix_neg hneg hz9 hz10,(hk9).mono (by omega),(hk10).mono (by omega),(by rw [val_lim,zv_ng]),hln9⟩
     ·
      refine wF ((ev (v:=.bool (decide (s8 < 0))) rfl rfl).trans (congrArg Value.bool (ltF (sgn_nn hs8 (by omega))))) ?_
      refine wskip (thenN ?_)
      exact ⟨_,rb,xb,_,_,_,_,_,_,_,brb,act_sets (l:=[(1,.slice pm nm cm),(6,.pointer (some ⟨g1,0,none⟩)),(7,.int .i64 0),(10,.pointer (some ⟨g9,0,none⟩)),(12,.pointer (some ⟨g17,0,none⟩)),(13,.pointer (some ⟨g21,0,none⟩))]) ⟨rfl,rfl,rfl,rfl,rfl,rfl,trivial⟩,hS.pick [0,1,2,3,4,5,6,7,8,9,10,11] (by decide) rfl,by rw [hTe]; exact sfix_pos hneg,(hkrb).mono (by omega),(hkxb).mono (by omega),hvrb,hnrb⟩
    clear hS; rintro _ w26 ⟨fb,N,D,pN,nN,cN,pD,nD,cD,lN,bN,rfl,hS,hN,hkN,hkD,hvN,hnN⟩
    refine wseq (wreg ?_)
    have hk8:Wd 1 2:=Wd.i64 (by omega) (by omega)
    refine wl rfl (ocall rfl rfl Tryz.call59 rfl (wzof (z:=1) (by omega) (by omega)) (args1 evc) ?_)
    rintro _ w27 ⟨_,_,rfl,⟨p8,n8,c8,rfl,rfl⟩,hN⟩
    refine ⟨_,rfl,?_⟩
    replace hS:=hS.news hN; clear hN
    refine wl rfl (oalloc [.bool false,.slice none 0 0] hS rfl rfl Tryz.zeroValue28 rfl ?_)
    clear hS; intro g28 w29 hS
    refine wl rfl (ostore [.bool (ng 1),.slice p8 n8 c8] [.bool (ng 1),.slice p8 n8 c8] Tryz.sizeOf28 hS 0 rfl rfl (ev rfl rfl) (ev (v:=.agg #[.bool (ng 1),.slice p8 n8 c8]) rfl rfl) rfl rfl rfl rfl rfl rfl ?_)
    clear hS; intro w30 hS
    refine wnil (thenN (wseq (wseq ?_)))
    obtain ⟨s9,hs9⟩:∃ z:Int,Hid ((D:Int).sign = z):=⟨_,rfl⟩
    by_cases hd0:D = 0
    ·
     have hcode:=rce_61 hvm hbm hN (.inl hd0)
     exact absurd h0 (by rw [hcode]; decide)
    ·
     obtain ⟨s10,hs10⟩:∃ z:Int,Hid (cmpZ D (((b:Nat):Int)) = z):=⟨_,rfl⟩
     by_cases hdb:((b:Nat):Int) < D
     ·
      have hcode:=rce_61 hvm hbm hN (.inr (.inl hdb))
      exact absurd h0 (by rw [hcode]; decide)
     ·
      obtain ⟨z11,hz11⟩:∃ z:Int,Hid ((Int.gcd N D:Int) = z):=⟨_,rfl⟩
      have hk11:Wd z11 2097152:=Wd.gcd hkN hkD hz11 (by omega)
      obtain ⟨s12,hs12⟩:∃ z:Int,Hid (cmpZ z11 1 = z):=⟨_,rfl⟩
      by_cases hg1:Int.gcd N D = 1
      ·
       obtain ⟨z13,hz13⟩:∃ z:Int,Hid ((Int.gcd D (((m:Nat):Int)):Int) = z):=⟨_,rfl⟩
       have hk13:Wd z13 2097152:=Wd.gcd hkD hzm.wd hz13 (by omega)
       obtain ⟨s14,hs14⟩:∃ z:Int,Hid (cmpZ z13 1 = z):=⟨_,rfl⟩
       by_cases hg2:Int.gcd D ((m:Nat):Int) = 1
       ·
        refine wstage 28 [69,70,71,72,73,74,75,76,77,78,79,80,81,82,83,84,85,86,87,88,89,90,91,92,93,94,95,96] [[],[0],[1,0],[2,0,1],[3,0,1,2],[3,0,1,2],[3,4,5,0,1,2],[3,6,0,1,2,4,5],[3,7,0,1,2,4,5,6],[8,0,1,2,3,4,5,6,7],[9,0,1,2,3,4,5,6,7,8],[9,0,1,2,3,4,5,6,7,8],[9,10,11,0,1,2,3,4,5,6,7,8],[9,12,0,1,2,3,4,5,6,7,8,10,11],[9,0,1,2,3,4,5,6,7,8],[9,13,14,0,1,2,3,4,5,6,7,8,10,11,12],[9,15,0,1,2,3,4,5,6,7,8,10,11,12,13,14],[9,16,0,1,2,3,4,5,6,7,8,10,11,12,13,14,15],[17,0,1,2,3,4,5,6,7,8,9,10,11,12,13,14,15,16],[18,0,1,2,3,4,5,6,7,8,9,10,11,12,13,14,15,16,17],[18,0,1,2,3,4,5,6,7,8,9,10,11,12,13,14,15,16,17],[18,20,0,1,2,3,4,5,6,7,8,9,10,11,12,13,14,15,16,17],[18,19,21,0,1,2,3,4,5,6,7,8,9,10,11,12,13,14,15,16,17,20],[18,22,0,1,2,3,4,5,6,7,8,9,10,11,12,13,14,15,16,17,19,20,21],[18,0,1,2,3,4,5,6,7,8,9,10,11,12,13,14,15,16,17],[18,23,24,0,1,2,3,4,5,6,7,8,9,10,11,12,13,14,15,16,17,19,20,21,22],[18,25,0,1,2,3,4,5,6,7,8,9,10,11,12,13,14,15,16,17,19,20,21,22,23,24],[18,26,0,1,2,3,4,5,6,7,8,9,10,11,12,13,14,15,16,17,19,20,21,22,23,24,25]] [[],[],[],[],[],[],[],[],[],[],[],[],[],[],[],[],[],[],[],[],[],[],[],[],[],[],[],[]] [] [] (fun i9 => ([fun _ => Is (.agg #[.bool (ng D),.slice pD nD cD]),fun _ => Is (.int .i64 s9),fun _ => Is (.bool false),fun _ => Is (.bool false),fun _ => Is (.agg #[.bool (ng D),.slice pD nD cD]),fun _ => Is (.agg #[.bool false,.slice pb nb cb]),fun _ => Is (.int .i64 s10),fun _ => Is (.bool false),fun _ => Is (.bool false),fun _ => Is (.bool false),fun _ => Is (.agg #[.bool bN,.slice pN nN cN]),fun _ => Is (.agg #[.bool (ng D),.slice pD nD cD]),fun _ => Slb [.bool bN,.slice pN nN cN,.bool (ng D),.slice pD nD cD] 28 2,fun _ => Zt z11,fun _ => Is (.agg #[.bool (ng 1),.slice p8 n8 c8]),fun _ => Is (.int .i64 s12),fun _ => Is (.bool false),fun _ => Is (.bool false),fun _ => Is (.bool false),fun _ => Is (.agg #[.bool (ng D),.slice pD nD cD]),fun _ => Is (.slice pm nm cm),fun _ => Is (.agg #[.bool false,.slice pm nm cm]),fun _ => Slb [.bool (ng D),.slice pD nD cD,.bool false,.slice pm nm cm] 28 2,fun _ => Zt z13,fun _ => Is (.agg #[.bool (ng 1),.slice p8 n8 c8]),fun _ => Is (.int .i64 s14),fun _ => Is (.bool false),fun _ => Is (.bool false)]:List (List Value → Tell)).getD i9 (fun _ _ _ => False)) (heldNil) (fun d _ _ _ _ h => (by cases d <;> exact h)) (by kernel_rfl) (by kernel_rfl) (by kernel_rfl) hS ?_ ?_
        ·
         refine stepsCons rfl (fun Q f' w' ρ S ho hT hS hB => ?_) ?_
         ·exact .inl ⟨want_none rfl,oload (vs:=[.bool (ng D),.slice pD nD cD]) aggZ hS 5 rfl rfl (ev rfl (ho 12 rfl)) rfl rfl rfl ⟨_,_,rfl,isI,New.same _⟩⟩
         refine stepsCons rfl (fun Q f' w' ρ S ho hT hS hB => ?_) ?_
         ·obtain ⟨hv0,hr0⟩:=(hT 0 69 rfl rfl:(Is (.agg #[.bool (ng D),.slice pD nD cD])) _ _)
          obtain hS:=hS.flat1 hr0
          exact .inl ⟨want_none rfl,ocall rfl rfl Tryz.call64 rfl (wzsign (((hS.sl 7 rfl).zr hkD).mono (by omega)) hs9) (args1 (ev rfl hv0)) callN⟩
         refine stepsCons rfl (fun Q f' w' ρ S ho hT hS hB => ?_) ?_
         ·obtain ⟨hv1,hr1⟩:=(hT 1 70 rfl rfl:(Is (.int .i64 s9)) _ _)
          obtain hS:=hS.flat1 hr1
          exact .inl ⟨want_none rfl,obin (u:=.int .i64 s9) (v:=.int .i64 0) (z:=.bool false) rfl rfl (ev rfl hv1) evc (bin_eql (sign_ne hs9 hd0)) ⟨_,_,rfl,isI,New.same _⟩⟩
         refine stepsCons rfl (fun Q f' w' ρ S ho hT hS hB => ?_) ?_
         ·obtain ⟨hv2,hr2⟩:=(hT 2 71 rfl rfl:(Is (.bool false)) _ _)
          obtain hS:=hS.flat1 hr2
          exact .inl ⟨want_none rfl,omove (v:=.bool false) rfl rfl (ev rfl hv2) ⟨_,_,rfl,isI,New.same _⟩⟩
         refine stepsCons rfl (fun Q f' w' ρ S ho hT hS hB => ?_) ?_
         ·obtain ⟨hv3,hr3⟩:=(hT 3 72 rfl rfl:(Is (.bool false)) _ _)
          obtain hS:=hS.flat1 hr3
          exact .inl ⟨want_on (e:=72) rfl rfl rfl hv3,oload (vs:=[.bool (ng D),.slice pD nD cD]) aggZ hS 5 rfl rfl (ev rfl (ho 12 rfl)) rfl rfl rfl ⟨_,_,rfl,isI,New.same _⟩⟩
         refine stepsCons rfl (fun Q f' w' ρ S ho hT hS hB => ?_) ?_
         ·obtain ⟨hv3,hr3⟩:=(hT 3 72 rfl rfl:(Is (.bool false)) _ _)
          obtain hS:=hS.flat1 hr3
          exact .inl ⟨want_on (e:=72) rfl rfl rfl hv3,oload (vs:=[.bool false,.slice pb nb cb]) aggZ hS 4 rfl rfl (ev rfl (ho 13 rfl)) rfl rfl rfl ⟨_,_,rfl,isI,New.same _⟩⟩
         refine stepsCons rfl (fun Q f' w' ρ S ho hT hS hB => ?_) ?_
         ·obtain ⟨hv3,hr3⟩:=(hT 3 72 rfl rfl:(Is (.bool false)) _ _)
          obtain ⟨hv4,hr4⟩:=(hT 4 73 rfl rfl:(Is (.agg #[.bool (ng D),.slice pD nD cD])) _ _)
          obtain ⟨hv5,hr5⟩:=(hT 5 74 rfl rfl:(Is (.agg #[.bool false,.slice pb nb cb])) _ _)
          obtain hS:=hS.flat3 hr3 hr4 hr5
          exact .inl ⟨want_on (e:=72) rfl rfl rfl hv3,ocall rfl rfl Tryz.call60 rfl (wzcmp (((hS.sl 7 rfl).zr hkD).mono (by omega)) ((hzb.at hS).mono (by omega)) hs10) (args2 (ev rfl hv4) (ev rfl hv5)) callN⟩
         refine stepsCons rfl (fun Q f' w' ρ S ho hT hS hB => ?_) ?_
         ·obtain ⟨hv3,hr3⟩:=(hT 3 72 rfl rfl:(Is (.bool false)) _ _)
          obtain ⟨hv6,hr6⟩:=(hT 6 75 rfl rfl:(Is (.int .i64 s10)) _ _)
          obtain hS:=hS.flat2 hr3 hr6
          exact .inl ⟨want_on (e:=72) rfl rfl rfl hv3,obin (u:=.int .i64 s10) (v:=.int .i64 0) (z:=.bool false) rfl rfl (ev rfl hv6) evc (bin_gtr (cmpZ_gtF hs10 (by omega))) ⟨_,_,rfl,isI,New.same _⟩⟩
         refine stepsCons rfl (fun Q f' w' ρ S ho hT hS hB => ?_) ?_
         ·obtain ⟨hv3,hr3⟩:=(hT 3 72 rfl rfl:(Is (.bool false)) _ _)
          obtain ⟨hv7,hr7⟩:=(hT 7 76 rfl rfl:(Is (.bool false)) _ _)
          obtain hS:=hS.flat2 hr3 hr7
          exact .inl ⟨want_none rfl,opick (b:=false) (v:=.bool false) rfl rfl (ev rfl hv3) (ev rfl hv7) ⟨_,_,rfl,isI,New.same _⟩⟩
         refine stepsCons rfl (fun Q f' w' ρ S ho hT hS hB => ?_) ?_
         ·obtain ⟨hv8,hr8⟩:=(hT 8 77 rfl rfl:(Is (.bool false)) _ _)
          obtain hS:=hS.flat1 hr8
          exact .inl ⟨want_none rfl,omove (v:=.bool false) rfl rfl (ev rfl hv8) ⟨_,_,rfl,isI,New.same _⟩⟩
         refine stepsCons rfl (fun Q f' w' ρ S ho hT hS hB => ?_) ?_
         ·obtain ⟨hv9,hr9⟩:=(hT 9 78 rfl rfl:(Is (.bool false)) _ _)
          obtain hS:=hS.flat1 hr9
          exact .inl ⟨want_on (e:=78) rfl rfl rfl hv9,oload (vs:=[.bool bN,.slice pN nN cN]) aggZ hS 9 rfl rfl (ev rfl (ho 10 rfl)) rfl rfl rfl ⟨_,_,rfl,isI,New.same _⟩⟩
         refine stepsCons rfl (fun Q f' w' ρ S ho hT hS hB => ?_) ?_
         ·obtain ⟨hv9,hr9⟩:=(hT 9 78 rfl rfl:(Is (.bool false)) _ _)
          obtain hS:=hS.flat1 hr9
          exact .inl ⟨want_on (e:=78) rfl rfl rfl hv9,oload (vs:=[.bool (ng D),.slice pD nD cD]) aggZ hS 5 rfl rfl (ev rfl (ho 12 rfl)) rfl rfl rfl ⟨_,_,rfl,isI,New.same _⟩⟩
         refine stepsCons rfl (fun Q f' w' ρ S ho hT hS hB => ?_) ?_
         ·obtain ⟨hv9,hr9⟩:=(hT 9 78 rfl rfl:(Is (.bool false)) _ _)
          obtain ⟨hv10,hr10⟩:=(hT 10 79 rfl rfl:(Is (.agg #[.bool bN,.slice pN nN cN])) _ _)
          obtain ⟨hv11,hr11⟩:=(hT 11 80 rfl rfl:(Is (.agg #[.bool (ng D),.slice pD nD cD])) _ _)
          obtain hS:=hS.flat3 hr9 hr10 hr11
          exact .inl ⟨want_on (e:=78) rfl rfl rfl hv9,obsliceN (ps:=#[(0,.agg #[.bool bN,.slice pN nN cN]),(1,.agg #[.bool (ng D),.slice pD nD cD])]) (z:=.agg #[.bool false,.slice none 0 0]) [.bool bN,.slice pN nN cN,.bool (ng D),.slice pD nD cD] rfl rfl Tryz.runUnderlying133 Tryz.sizeOf28 Tryz.zeroValue28 (parts2 (ev (v:=.agg #[.bool bN,.slice pN nN cN]) rfl hv10) (ev (v:=.agg #[.bool (ng D),.slice pD nD cD]) rfl hv11)) rfl (by decide) fill2 ⟨_,_,rfl,⟨_,rfl,rfl⟩,New.blk _ _ _⟩⟩
         refine stepsCons rfl (fun Q f' w' ρ S ho hT hS hB => ?_) ?_
         ·obtain ⟨hv9,hr9⟩:=(hT 9 78 rfl rfl:(Is (.bool false)) _ _)
          obtain ⟨g31,hv12,hr12⟩:=(hT 12 81 rfl rfl:(Slb [.bool bN,.slice pN nN cN,.bool (ng D),.slice pD nD cD] 28 2) _ _)
          obtain hS:=hS.flat2 hr9 hr12
          exact .inl ⟨want_on (e:=78) rfl rfl rfl hv9,ocall rfl rfl Tryz.call66 rfl ((wzGcd_two (hS.blkAt 14 rfl) ((show Zr _ _ _ _ _ N 2097152 from ⟨_,hS.rdAt 2 rfl,hvN,hnN⟩).mono (by omega)) (((hS.sl 7 rfl).zr hkD).mono (by omega)) hkN hkD hz11)) (args1 (ev rfl hv12)) callN⟩
         refine stepsCons rfl (fun Q f' w' ρ S ho hT hS hB => ?_) ?_
         ·obtain ⟨hv9,hr9⟩:=(hT 9 78 rfl rfl:(Is (.bool false)) _ _)
          obtain hS:=hS.flat1 hr9
          exact .inl ⟨want_on (e:=78) rfl rfl rfl hv9,oload (vs:=[.bool (ng 1),.slice p8 n8 c8]) aggZ hS 0 rfl rfl (ev rfl (ho 17 rfl)) rfl rfl rfl ⟨_,_,rfl,isI,New.same _⟩⟩
         refine stepsCons rfl (fun Q f' w' ρ S ho hT hS hB => ?_) ?_
         ·obtain ⟨hv9,hr9⟩:=(hT 9 78 rfl rfl:(Is (.bool false)) _ _)
          obtain ⟨p11,n11,c11,hv13,hr13⟩:=(hT 13 82 rfl rfl:(Zt z11) _ _)
          obtain ⟨hv14,hr14⟩:=(hT 14 83 rfl rfl:(Is (.agg #[.bool (ng 1),.slice p8 n8 c8])) _ _)
          obtain hS:=hS.flat3 hr9 hr13 hr14
          exact .inl ⟨want_on (e:=78) rfl rfl rfl hv9,ocall rfl rfl Tryz.call60 rfl (wzcmp (((hS.sl 14 rfl).zr hk11).mono (by omega)) (((hS.sl 1 rfl).zr hk8).mono (by omega)) hs12) (args2 (ev rfl hv13) (ev rfl hv14)) callN⟩
         refine stepsCons rfl (fun Q f' w' ρ S ho hT hS hB => ?_) ?_
         ·obtain ⟨hv9,hr9⟩:=(hT 9 78 rfl rfl:(Is (.bool false)) _ _)
          obtain ⟨hv15,hr15⟩:=(hT 15 84 rfl rfl:(Is (.int .i64 s12)) _ _)
          obtain hS:=hS.flat2 hr9 hr15
          exact .inl ⟨want_on (e:=78) rfl rfl rfl hv9,obin (u:=.int .i64 s12) (v:=.int .i64 0) (z:=.bool false) rfl rfl (ev rfl hv15) evc (bin_neq (cmpZ_neF hs12 (by rw [← hz11.out,hg1]; rfl))) ⟨_,_,rfl,isI,New.same _⟩⟩
         refine stepsCons rfl (fun Q f' w' ρ S ho hT hS hB => ?_) ?_
         ·obtain ⟨hv9,hr9⟩:=(hT 9 78 rfl rfl:(Is (.bool false)) _ _)
          obtain ⟨hv16,hr16⟩:=(hT 16 85 rfl rfl:(Is (.bool false)) _ _)
          obtain hS:=hS.flat2 hr9 hr16
          exact .inl ⟨want_none rfl,opick (b:=false) (v:=.bool false) rfl rfl (ev rfl hv9) (ev rfl hv16) ⟨_,_,rfl,isI,New.same _⟩⟩
         refine stepsCons rfl (fun Q f' w' ρ S ho hT hS hB => ?_) ?_
         ·obtain ⟨hv17,hr17⟩:=(hT 17 86 rfl rfl:(Is (.bool false)) _ _)
          obtain hS:=hS.flat1 hr17
          exact .inl ⟨want_none rfl,omove (v:=.bool false) rfl rfl (ev rfl hv17) ⟨_,_,rfl,isI,New.same _⟩⟩
         refine stepsCons rfl (fun Q f' w' ρ S ho hT hS hB => ?_) ?_
         ·obtain ⟨hv18,hr18⟩:=(hT 18 87 rfl rfl:(Is (.bool false)) _ _)
          obtain hS:=hS.flat1 hr18
          exact .inl ⟨want_on (e:=87) rfl rfl rfl hv18,oload (vs:=[.bool (ng D),.slice pD nD cD]) aggZ hS 5 rfl rfl (ev rfl (ho 12 rfl)) rfl rfl rfl ⟨_,_,rfl,isI,New.same _⟩⟩
         refine stepsCons rfl (fun Q f' w' ρ S ho hT hS hB => ?_) ?_
         ·obtain ⟨hv18,hr18⟩:=(hT 18 87 rfl rfl:(Is (.bool false)) _ _)
          obtain hS:=hS.flat1 hr18
          exact .inl ⟨want_on (e:=87) rfl rfl rfl hv18,omove (v:=.slice pm nm cm) rfl rfl (ev rfl (ho 1 rfl)) ⟨_,_,rfl,isI,New.same _⟩⟩
         refine stepsCons rfl (fun Q f' w' ρ S ho hT hS hB => ?_) ?_
         ·obtain ⟨hv18,hr18⟩:=(hT 18 87 rfl rfl:(Is (.bool false)) _ _)
          obtain ⟨hv20,hr20⟩:=(hT 20 89 rfl rfl:(Is (.slice pm nm cm)) _ _)
          obtain hS:=hS.flat2 hr18 hr20
          exact .inl ⟨want_on (e:=87) rfl rfl rfl hv18,obuild (ps:=#[(1,.slice pm nm cm)]) (v:=.agg #[.bool false,.slice pm nm cm]) rfl rfl (parts1 (ev (v:=.slice pm nm cm) rfl hv20)) (fun w => by simp [go_sem,Instr.build,Instr.fill]) ⟨_,_,rfl,isI,New.same _⟩⟩
         refine stepsCons rfl (fun Q f' w' ρ S ho hT hS hB => ?_) ?_
         ·obtain ⟨hv18,hr18⟩:=(hT 18 87 rfl rfl:(Is (.bool false)) _ _)
          obtain ⟨hv19,hr19⟩:=(hT 19 88 rfl rfl:(Is (.agg #[.bool (ng D),.slice pD nD cD])) _ _)
          obtain ⟨hv21,hr21⟩:=(hT 21 90 rfl rfl:(Is (.agg #[.bool false,.slice pm nm cm])) _ _)
          obtain hS:=hS.flat3 hr18 hr19 hr21
          exact .inl ⟨want_on (e:=87) rfl rfl rfl hv18,obsliceN (ps:=#[(0,.agg #[.bool (ng D),.slice pD nD cD]),(1,.agg #[.bool false,.slice pm nm cm])]) (z:=.agg #[.bool false,.slice none 0 0]) [.bool (ng D),.slice pD nD cD,.bool false,.slice pm nm cm] rfl rfl Tryz.runUnderlying133 Tryz.sizeOf28 Tryz.zeroValue28 (parts2 (ev (v:=.agg #[.bool (ng D),.slice pD nD cD]) rfl hv19) (ev (v:=.agg #[.bool false,.slice pm nm cm]) rfl hv21)) rfl (by decide) fill2 ⟨_,_,rfl,⟨_,rfl,rfl⟩,New.blk _ _ _⟩⟩
         refine stepsCons rfl (fun Q f' w' ρ S ho hT hS hB => ?_) ?_
         ·obtain ⟨hv18,hr18⟩:=(hT 18 87 rfl rfl:(Is (.bool false)) _ _)
          obtain ⟨g32,hv22,hr22⟩:=(hT 22 91 rfl rfl:(Slb [.bool (ng D),.slice pD nD cD,.bool false,.slice pm nm cm] 28 2) _ _)
          obtain hS:=hS.flat2 hr18 hr22
          exact .inl ⟨want_on (e:=87) rfl rfl rfl hv18,ocall rfl rfl Tryz.call66 rfl ((wzGcd_two (hS.blkAt 14 rfl) (((hS.sl 7 rfl).zr hkD).mono (by omega)) ((hzm.at hS).mono (by omega)) hkD hzm.wd hz13)) (args1 (ev rfl hv22)) callN⟩
         refine stepsCons rfl (fun Q f' w' ρ S ho hT hS hB => ?_) ?_
         ·obtain ⟨hv18,hr18⟩:=(hT 18 87 rfl rfl:(Is (.bool false)) _ _)
          obtain hS:=hS.flat1 hr18
          exact .inl ⟨want_on (e:=87) rfl rfl rfl hv18,oload (vs:=[.bool (ng 1),.slice p8 n8 c8]) aggZ hS 0 rfl rfl (ev rfl (ho 17 rfl)) rfl rfl rfl ⟨_,_,rfl,isI,New.same _⟩⟩
         refine stepsCons rfl (fun Q f' w' ρ S ho hT hS hB => ?_) ?_
         ·obtain ⟨hv18,hr18⟩:=(hT 18 87 rfl rfl:(Is (.bool false)) _ _)
          obtain ⟨p13,n13,c13,hv23,hr23⟩:=(hT 23 92 rfl rfl:(Zt z13) _ _)
          obtain ⟨hv24,hr24⟩:=(hT 24 93 rfl rfl:(Is (.agg #[.bool (ng 1),.slice p8 n8 c8])) _ _)
          obtain hS:=hS.flat3 hr18 hr23 hr24
          exact .inl ⟨want_on (e:=87) rfl rfl rfl hv18,ocall rfl rfl Tryz.call60 rfl (wzcmp (((hS.sl 14 rfl).zr hk13).mono (by omega)) (((hS.sl 1 rfl).zr hk8).mono (by omega)) hs14) (args2 (ev rfl hv23) (ev rfl hv24)) callN⟩
         refine stepsCons rfl (fun Q f' w' ρ S ho hT hS hB => ?_) ?_
         ·obtain ⟨hv18,hr18⟩:=(hT 18 87 rfl rfl:(Is (.bool false)) _ _)
          obtain ⟨hv25,hr25⟩:=(hT 25 94 rfl rfl:(Is (.int .i64 s14)) _ _)
          obtain hS:=hS.flat2 hr18 hr25
          exact .inl ⟨want_on (e:=87) rfl rfl rfl hv18,obin (u:=.int .i64 s14) (v:=.int .i64 0) (z:=.bool false) rfl rfl (ev rfl hv25) evc (bin_neq (cmpZ_neF hs14 (by rw [← hz13.out,hg2]; rfl))) ⟨_,_,rfl,isI,New.same _⟩⟩
         refine stepsCons rfl (fun Q f' w' ρ S ho hT hS hB => ?_) ?_
         ·obtain ⟨hv18,hr18⟩:=(hT 18 87 rfl rfl:(Is (.bool false)) _ _)
          obtain ⟨hv26,hr26⟩:=(hT 26 95 rfl rfl:(Is (.bool false)) _ _)
          obtain hS:=hS.flat2 hr18 hr26
          exact .inl ⟨want_none rfl,opick (b:=false) (v:=.bool false) rfl rfl (ev rfl hv18) (ev rfl hv26) ⟨_,_,rfl,isI,New.same _⟩⟩
         exact stepsNil
        ·
         intro vs ρ w33 f' hf hT hS
         obtain ⟨hv0,hr0⟩:=(hT 0 (by decide):(Is (.agg #[.bool (ng D),.slice pD nD cD])) _ _)
         obtain ⟨hv1,hr1⟩:=(hT 1 (by decide):(Is (.int .i64 s9)) _ _)
         obtain ⟨hv2,hr2⟩:=(hT 2 (by decide):(Is (.bool false)) _ _)
         obtain ⟨hv3,hr3⟩:=(hT 3 (by decide):(Is (.bool false)) _ _)
         obtain ⟨hv4,hr4⟩:=(hT 4 (by decide):(Is (.agg #[.bool (ng D),.slice pD nD cD])) _ _)
         obtain ⟨hv5,hr5⟩:=(hT 5 (by decide):(Is (.agg #[.bool false,.slice pb nb cb])) _ _)
         obtain ⟨hv6,hr6⟩:=(hT 6 (by decide):(Is (.int .i64 s10)) _ _)
         obtain ⟨hv7,hr7⟩:=(hT 7 (by decide):(Is (.bool false)) _ _)
         obtain ⟨hv8,hr8⟩:=(hT 8 (by decide):(Is (.bool false)) _ _)
         obtain ⟨hv9,hr9⟩:=(hT 9 (by decide):(Is (.bool false)) _ _)
         obtain ⟨hv10,hr10⟩:=(hT 10 (by decide):(Is (.agg #[.bool bN,.slice pN nN cN])) _ _)
         obtain ⟨hv11,hr11⟩:=(hT 11 (by decide):(Is (.agg #[.bool (ng D),.slice pD nD cD])) _ _)
         obtain ⟨g31,hv12,hr12⟩:=(hT 12 (by decide):(Slb [.bool bN,.slice pN nN cN,.bool (ng D),.slice pD nD cD] 28 2) _ _)
         obtain ⟨p11,n11,c11,hv13,hr13⟩:=(hT 13 (by decide):(Zt z11) _ _)
         obtain ⟨hv14,hr14⟩:=(hT 14 (by decide):(Is (.agg #[.bool (ng 1),.slice p8 n8 c8])) _ _)
         obtain ⟨hv15,hr15⟩:=(hT 15 (by decide):(Is (.int .i64 s12)) _ _)
         obtain ⟨hv16,hr16⟩:=(hT 16 (by decide):(Is (.bool false)) _ _)
         obtain ⟨hv17,hr17⟩:=(hT 17 (by decide):(Is (.bool false)) _ _)
         obtain ⟨hv18,hr18⟩:=(hT 18 (by decide):(Is (.bool false)) _ _)
         obtain ⟨hv19,hr19⟩:=(hT 19 (by decide):(Is (.agg #[.bool (ng D),.slice pD nD cD])) _ _)
         obtain ⟨hv20,hr20⟩:=(hT 20 (by decide):(Is (.slice pm nm cm)) _ _)
         obtain ⟨hv21,hr21⟩:=(hT 21 (by decide):(Is (.agg #[.bool false,.slice pm nm cm])) _ _)
         obtain ⟨g32,hv22,hr22⟩:=(hT 22 (by decide):(Slb [.bool (ng D),.slice pD nD cD,.bool false,.slice pm nm cm] 28 2) _ _)
         obtain ⟨p13,n13,c13,hv23,hr23⟩:=(hT 23 (by decide):(Zt z13) _ _)
         obtain ⟨hv24,hr24⟩:=(hT 24 (by decide):(Is (.agg #[.bool (ng 1),.slice p8 n8 c8])) _ _)
         obtain ⟨hv25,hr25⟩:=(hT 25 (by decide):(Is (.int .i64 s14)) _ _)
         obtain ⟨hv26,hr26⟩:=(hT 26 (by decide):(Is (.bool false)) _ _)
         obtain ⟨hv27,hr27⟩:=(hT 27 (by decide):(Is (.bool false)) _ _)
         simp only [pool,if_true,hr0,hr1,hr2,hr3,hr4,hr5,hr6,hr7,hr8,hr9,hr10,hr11,hr12,hr13,hr14,hr15,hr16,hr17,hr18,hr19,hr20,hr21,hr22,hr23,hr24,hr25,hr26,hr27,List.nil_append,List.cons_append,List.append_nil] at hS
         simp only [layf,hv0,hv1,hv2,hv3,hv4,hv5,hv6,hv7,hv8,hv9,hv10,hv11,hv12,hv13,hv14,hv15,hv16,hv17,hv18,hv19,hv20,hv21,hv22,hv23,hv24,hv25,hv26,hv27] at hf
         subst hf; clear hT hv0 hv1 hv2 hv3 hv4 hv5 hv6 hv7 hv8 hv9 hv10 hv11 hv12 hv13 hv14 hv15 hv16 hv17 hv18 hv19 hv20 hv21 hv22 hv23 hv24 hv25 hv26 hv27 hr0 hr1 hr2 hr3 hr4 hr5 hr6 hr7 hr8 hr9 hr10 hr11 hr12 hr13 hr14 hr15 hr16 hr17 hr18 hr19 hr20 hr21 hr22 hr23 hr24 hr25 hr26 hr27
         refine wdone rfl ?_
         refine thenN ?_
         refine wF (ev rfl rfl) ?_
         refine wskip (thenN (wseq ?_))
         obtain ⟨z15,hz15⟩:∃ z:Int,Hid (N = z):=⟨_,rfl⟩
         have hk15:Wd z15 2097152:=Wd.same hkN hz15
         refine wstage 4 [98,99,100,101] [[],[0],[],[1,2,0]] [[],[],[],[1]] [] [] (fun i9 => ([fun _ => Is (.agg #[.bool bN,.slice pN nN cN]),fun _ => Zt z15,fun _ => Is (.agg #[.bool (ng D),.slice pD nD cD]),fun us => Is (.agg #[.bool (ng z15),(vat (us.getD 0 undef) [1]),.bool (ng D),.slice pD nD cD])]:List (List Value → Tell)).getD i9 (fun _ _ _ => False)) (heldNil) (fun d _ _ _ _ h => (by cases d <;> exact h)) (by kernel_rfl) (by kernel_rfl) (by kernel_rfl) hS ?_ ?_
         ·
          refine stepsCons rfl (fun Q f' w' ρ S ho hT hS hB => ?_) ?_
          ·exact .inl ⟨want_none rfl,oload (vs:=[.bool bN,.slice pN nN cN]) aggZ hS 13 rfl rfl (ev rfl (ho 10 rfl)) rfl rfl rfl ⟨_,_,rfl,isI,New.same _⟩⟩
          refine stepsCons rfl (fun Q f' w' ρ S ho hT hS hB => ?_) ?_
          ·obtain ⟨hv0,hr0⟩:=(hT 0 98 rfl rfl:(Is (.agg #[.bool bN,.slice pN nN cN])) _ _)
           obtain hS:=hS.flat1 hr0
           exact .inl ⟨want_none rfl,ocall rfl rfl Tryz.call67 rfl (wznorm ((show Zr _ _ _ _ _ N 2097152 from ⟨_,hS.rdAt 6 rfl,hvN,hnN⟩).mono (by omega)) hz15) (args1 (ev rfl hv0)) callN⟩
          refine stepsCons rfl (fun Q f' w' ρ S ho hT hS hB => ?_) ?_
          ·exact .inl ⟨want_none rfl,oload (vs:=[.bool (ng D),.slice pD nD cD]) aggZ hS 9 rfl rfl (ev rfl (ho 12 rfl)) rfl rfl rfl ⟨_,_,rfl,isI,New.same _⟩⟩
          refine stepsCons rfl (fun Q f' w' ρ S ho hT hS hB => ?_) ?_
          ·obtain ⟨p15,n15,c15,hv1,hr1⟩:=(hT 1 99 rfl rfl:(Zt z15) _ _)
           obtain ⟨hv2,hr2⟩:=(hT 2 100 rfl rfl:(Is (.agg #[.bool (ng D),.slice pD nD cD])) _ _)
           obtain hS:=hS.flat2 hr1 hr2
           have hQ:(.agg #[.bool (ng z15),.slice p15 n15 c15,.bool (ng D),.slice pD nD cD]:Value) = (fun (us:List Value) => (.agg #[.bool (ng z15),(vat (us.getD 0 undef) [1]),.bool (ng D),.slice pD nD cD]:Value)) [f' 99]:=by show _ = (.agg #[.bool (ng z15),(vat (f' 99) [1]),.bool (ng D),.slice pD nD cD]:Value); rw [hv1]; rfl
           exact .inl ⟨want_none rfl,obuild (ps:=#[(0,.agg #[.bool (ng z15),.slice p15 n15 c15]),(1,.agg #[.bool (ng D),.slice pD nD cD])]) (v:=.agg #[.bool (ng z15),.slice p15 n15 c15,.bool (ng D),.slice pD nD cD]) rfl rfl (parts2 (ev (v:=.agg #[.bool (ng z15),.slice p15 n15 c15]) rfl hv1) (ev (v:=.agg #[.bool (ng D),.slice pD nD cD]) rfl hv2)) (fun w => by simp [go_sem,Instr.build,Instr.fill]) ⟨_,_,rfl,⟨hQ,rfl⟩,New.same _⟩⟩
          exact stepsNil
         ·
          intro vs ρ w34 f' hf hT hS
          obtain ⟨hv0,hr0⟩:=(hT 0 (by decide):(Is (.agg #[.bool bN,.slice pN nN cN])) _ _)
          obtain ⟨p15,n15,c15,hv1,hr1⟩:=(hT 1 (by decide):(Zt z15) _ _)
          obtain ⟨hv2,hr2⟩:=(hT 2 (by decide):(Is (.agg #[.bool (ng D),.slice pD nD cD])) _ _)
          obtain ⟨hv3,hr3⟩:=(hT 3 (by decide):(fun (us:List Value) => Is (.agg #[.bool (ng z15),(vat (us.getD 0 undef) [1]),.bool (ng D),.slice pD nD cD])) [vs 1] _ _)
          replace hv3:vs 3 = .agg #[.bool (ng z15),.slice p15 n15 c15,.bool (ng D),.slice pD nD cD]:=hv3.trans (by show (.agg #[.bool (ng z15),(vat (vs 1) [1]),.bool (ng D),.slice pD nD cD]:Value) = _; rw [hv1]; rfl)
          simp only [pool,if_true,hr0,hr1,hr2,hr3,List.nil_append,List.cons_append,List.append_nil] at hS
          simp only [layf,hv0,hv1,hv2,hv3] at hf
          subst hf; clear hT hv0 hv1 hv2 hv3 hr0 hr1 hr2 hr3
          refine wlate 4 rfl (by kernel_rfl) (ostore [.bool (ng z15),.slice p15 n15 c15,.bool (ng D),.slice pD nD cD] [.bool (ng z15),.slice p15 n15 c15,.bool (ng D),.slice pD nD cD] Tryz.sizeOf30 hS 18 rfl rfl (ev rfl rfl) (ev (v:=.agg #[.bool (ng z15),.slice p15 n15 c15,.bool (ng D),.slice pD nD cD]) rfl rfl) rfl rfl rfl rfl rfl rfl ?_)
          clear hS; intro w35 hS
          refine ⟨heldNil,?_⟩
          refine wlate 5 rfl (by kernel_rfl) (oassign (v:=.int .i64 0) rfl rfl evc ?_)
          refine ⟨heldNil,?_⟩
          refine wdone rfl ?_
          refine thenN ?_
          refine wleave ?_
          have hgood:=rce_0 hvm hbm hN hd0 (by omega) hg1 hg2
          refine wret2 Tryz.results15 (tellC (cs:=[.bool (ng z15),.slice p15 n15 c15,.bool (ng D),.slice pD nD cD]) aggR hS 18 rfl rfl rfl rfl) (tellT (v:=.int .i64 0) rfl rfl) ?_
          have hq9:=hz15.out
          subst hq9
          exact ⟨_,_,rfl,by rw [hgood.2.1,hgood.2.2]; exact ⟨_,_,_,_,_,_,rfl,rfl⟩,hS.new2 0 12 rfl rfl⟩
       ·
        have hcode:=rce_61 hvm hbm hN (.inr (.inr (.inr hg2)))
        exact absurd h0 (by rw [hcode]; decide)
      ·
       have hcode:=rce_61 hvm hbm hN (.inr (.inr (.inl hg1)))
       exact absurd h0 (by rw [hcode]; decide)
   ·
    refine wl rfl (obin (u:=.int .i64 s7) (v:=.int .i64 0) (z:=.bool true) rfl rfl (ev rfl rfl) evc (bin_gtr (cmpZ_gtT hs7 (by omega))) ?_)
    refine wnil (thenN ?_)
    refine wT (ev rfl rfl) ?_
    refine wskip (thenN (wblock (wseq (wreg (wl rfl (oload (vs:=[.bool bra,.slice pra nra cra]) aggZ hS 8 rfl rfl (ev rfl rfl) rfl rfl rfl ?_))))))
    refine wl rfl (oload (vs:=[.bool brb,.slice prb nrb crb]) aggZ hS 7 rfl rfl (ev rfl rfl) rfl rfl rfl ?_)
    obtain ⟨z8,hz8⟩:∃ z:Int,Hid (ra / rb = z):=⟨_,rfl⟩
    have hk8:Wd z8 2097152:=Wd.ediv hkra hz8
    obtain ⟨z9,hz9⟩:∃ z:Int,Hid (ra % rb = z):=⟨_,rfl⟩
    have hk9:Wd z9 2097152:=Wd.emod hkrb (by omega) hz9
    refine wl rfl (ocall rfl rfl Tryz.call61 rfl (wzeuclid ((show Zr _ _ _ _ _ ra 2097152 from ⟨_,hS.rdAt 1 rfl,hvra,hnra⟩).mono (by omega)) ((show Zr _ _ _ _ _ rb 2097152 from ⟨_,hS.rdAt 0 rfl,hvrb,hnrb⟩).mono (by omega)) (by omega) hz8 hz9) (args2 (ev rfl rfl) (ev rfl rfl)) ?_)
    rintro _ w26 ⟨_,_,rfl,⟨p8,n8,c8,p9,n9,c9,rfl,rfl⟩,hN⟩
    refine ⟨_,rfl,?_⟩
    replace hS:=hS.news hN; clear hN
    refine wl rfl (omove (v:=.tuple #[.agg #[.bool (ng z8),.slice p8 n8 c8],.agg #[.bool (ng z9),.slice p9 n9 c9],.int .i64 0]) rfl rfl (ev rfl rfl) ?_)
    refine wl rfl (oextract (vs:=[.agg #[.bool (ng z8),.slice p8 n8 c8],.agg #[.bool (ng z9),.slice p9 n9 c9],.int .i64 0]) (v:=.agg #[.bool (ng z8),.slice p8 n8 c8]) rfl rfl (ev rfl rfl) rfl ?_)
    refine wl rfl (oextract (vs:=[.agg #[.bool (ng z8),.slice p8 n8 c8],.agg #[.bool (ng z9),.slice p9 n9 c9],.int .i64 0]) (v:=.agg #[.bool (ng z9),.slice p9 n9 c9]) rfl rfl (ev rfl rfl) rfl ?_)
    refine wl rfl (oextract (vs:=[.agg #[.bool (ng z8),.slice p8 n8 c8],.agg #[.bool (ng z9),.slice p9 n9 c9],.int .i64 0]) (v:=.int .i64 0) rfl rfl (ev rfl rfl) rfl ?_)
    refine wl rfl (oalloc [.bool false,.slice none 0 0] hS rfl rfl Tryz.zeroValue28 rfl ?_)
    clear hS; intro g27 w28 hS
    refine wl rfl (oalloc [.bool false,.slice none 0 0] hS rfl rfl Tryz.zeroValue28 rfl ?_)
    clear hS; intro g29 w30 hS
    refine wl rfl (ostore [.bool (ng z8),.slice p8 n8 c8] [.bool (ng z8),.slice p8 n8 c8] Tryz.sizeOf28 hS 1 rfl rfl (ev rfl rfl) (ev (v:=.agg #[.bool (ng z8),.slice p8 n8 c8]) rfl rfl) rfl rfl rfl rfl rfl rfl ?_)
    clear hS; intro w31 hS
    refine wl rfl (ostore [.bool (ng z9),.slice p9 n9 c9] [.bool (ng z9),.slice p9 n9 c9] Tryz.sizeOf28 hS 0 rfl rfl (ev rfl rfl) (ev (v:=.agg #[.bool (ng z9),.slice p9 n9 c9]) rfl rfl) rfl rfl rfl rfl rfl rfl ?_)
    clear hS; intro w32 hS
    refine wl rfl (oassign (v:=.int .i64 0) rfl rfl (ev rfl rfl) ?_)
    refine wnil (thenN (wseq ?_))
    refine wstage 2 [53,54] [[],[]] [[],[]] [1] [(g29,[.bool (ng z9),.slice p9 n9 c9],28)] (fun i9 => ([fun _ => Is (.agg #[.bool brb,.slice prb nrb crb]),fun _ => Is (.agg #[.bool (ng z9),.slice p9 n9 c9])]:List (List Value → Tell)).getD i9 (fun _ _ _ => False)) ((heldCons (hS.blkAt 0 rfl) heldNil)) (fun d _ _ _ _ h => (by cases d <;> exact h)) (by kernel_rfl) (by kernel_rfl) (by kernel_rfl) hS ?_ ?_
    ·
     refine stepsCons rfl (fun Q f' w' ρ S ho hT hS hB => ?_) ?_
     ·exact .inl ⟨want_none rfl,oload (vs:=[.bool brb,.slice prb nrb crb]) aggZ hS 11 rfl rfl (ev rfl (ho 10 rfl)) rfl rfl rfl ⟨_,_,rfl,isI,New.same _⟩⟩
     refine stepsPure rfl ?_ ?_
     ·intro f' ρ ho hT
      exact ⟨_,.inl ⟨want_none rfl,fun w hw => yload (vs:=[.bool (ng z9),.slice p9 n9 c9]) aggZ rfl (ev rfl (ho 15 rfl)) (hw.at 0 rfl) rfl rfl⟩,isI⟩
     exact stepsNil
    ·
     intro vs ρ w33 f' hf hT hS
     obtain ⟨hv0,hr0⟩:=(hT 0 (by decide):(Is (.agg #[.bool brb,.slice prb nrb crb])) _ _)
     obtain ⟨hv1,hr1⟩:=(hT 1 (by decide):(Is (.agg #[.bool (ng z9),.slice p9 n9 c9])) _ _)
     simp only [pool,if_true,hr0,hr1,List.nil_append,List.cons_append,List.append_nil] at hS
     simp only [layf,hv0,hv1] at hf
     subst hf; clear hT hv0 hv1 hr0 hr1
     refine wlate 2 rfl (by kernel_rfl) (ostore [.bool brb,.slice prb nrb crb] [.bool brb,.slice prb nrb crb] Tryz.sizeOf28 hS 12 rfl rfl (ev rfl rfl) (ev (v:=.agg #[.bool brb,.slice prb nrb crb]) rfl rfl) rfl rfl rfl rfl rfl rfl ?_)
     clear hS; intro w34 hS
     refine ⟨(heldCons (hS.blkAt 0 rfl) heldNil),?_⟩
     refine wlate 3 rfl (by kernel_rfl) (ostore [.bool (ng z9),.slice p9 n9 c9] [.bool (ng z9),.slice p9 n9 c9] Tryz.sizeOf28 hS 11 rfl rfl (ev rfl rfl) (ev (v:=.agg #[.bool (ng z9),.slice p9 n9 c9]) rfl rfl) rfl rfl rfl rfl rfl rfl ?_)
     clear hS; intro w35 hS
     refine ⟨(heldCons (hS.blkAt 0 rfl) heldNil),?_⟩
     refine wdone rfl ?_
     refine thenN ?_
     obtain ⟨z10,hz10⟩:∃ z:Int,Hid (z8 * xb = z):=⟨_,rfl⟩
     have hk10:Wd z10 4194304:=Wd.mul hk8 hkxb hz10 (by omega)
     obtain ⟨z11,hz11⟩:∃ z:Int,Hid (xa - z10 = z):=⟨_,rfl⟩
     have hk11:Wd z11 4194305:=Wd.sub hkxa hk10 hz11 (by omega)
     refine wstage 6 [55,56,57,58,59,60] [[],[],[],[],[2,3],[1,4,2,3]] [[],[],[],[],[],[]] [] [] (fun i9 => ([fun _ => Is (.agg #[.bool (ng xb),.slice pxb nxb cxb]),fun _ => Is (.agg #[.bool (ng xa),.slice pxa nxa cxa]),fun _ => Is (.agg #[.bool (ng z8),.slice p8 n8 c8]),fun _ => Is (.agg #[.bool (ng xb),.slice pxb nxb cxb]),fun _ => Zt z10,fun _ => Zt z11]:List (List Value → Tell)).getD i9 (fun _ _ _ => False)) (heldNil) (fun d _ _ _ _ h => (by cases d <;> exact h)) (by kernel_rfl) (by kernel_rfl) (by kernel_rfl) hS ?_ ?_
     ·
      refine stepsCons rfl (fun Q f' w' ρ S ho hT hS hB => ?_) ?_
      ·exact .inl ⟨want_none rfl,oload (vs:=[.bool (ng xb),.slice pxb nxb cxb]) aggZ hS 7 rfl rfl (ev rfl (ho 12 rfl)) rfl rfl rfl ⟨_,_,rfl,isI,New.same _⟩⟩
      refine stepsCons rfl (fun Q f' w' ρ S ho hT hS hB => ?_) ?_
      ·exact .inl ⟨want_none rfl,oload (vs:=[.bool (ng xa),.slice pxa nxa cxa]) aggZ hS 8 rfl rfl (ev rfl (ho 11 rfl)) rfl rfl rfl ⟨_,_,rfl,isI,New.same _⟩⟩
      refine stepsCons rfl (fun Q f' w' ρ S ho hT hS hB => ?_) ?_
      ·exact .inl ⟨want_none rfl,oload (vs:=[.bool (ng z8),.slice p8 n8 c8]) aggZ hS 1 rfl rfl (ev rfl (ho 14 rfl)) rfl rfl rfl ⟨_,_,rfl,isI,New.same _⟩⟩
      refine stepsCons rfl (fun Q f' w' ρ S ho hT hS hB => ?_) ?_
      ·exact .inl ⟨want_none rfl,oload (vs:=[.bool (ng xb),.slice pxb nxb cxb]) aggZ hS 7 rfl rfl (ev rfl (ho 12 rfl)) rfl rfl rfl ⟨_,_,rfl,isI,New.same _⟩⟩
      refine stepsCons rfl (fun Q f' w' ρ S ho hT hS hB => ?_) ?_
      ·obtain ⟨hv2,hr2⟩:=(hT 2 57 rfl rfl:(Is (.agg #[.bool (ng z8),.slice p8 n8 c8])) _ _)
       obtain ⟨hv3,hr3⟩:=(hT 3 58 rfl rfl:(Is (.agg #[.bool (ng xb),.slice pxb nxb cxb])) _ _)
       obtain hS:=hS.flat2 hr2 hr3
       exact .inl ⟨want_none rfl,ocall rfl rfl Tryz.call63 rfl (wzmul (((hS.sl 2 rfl).zr hk8).mono (by omega)) (((hS.sl 9 rfl).zr hkxb).mono (by omega)) hz10) (args2 (ev rfl hv2) (ev rfl hv3)) callN⟩
      refine stepsCons rfl (fun Q f' w' ρ S ho hT hS hB => ?_) ?_
      ·obtain ⟨hv1,hr1⟩:=(hT 1 56 rfl rfl:(Is (.agg #[.bool (ng xa),.slice pxa nxa cxa])) _ _)
       obtain ⟨p10,n10,c10,hv4,hr4⟩:=(hT 4 59 rfl rfl:(Zt z10) _ _)
       obtain hS:=hS.flat2 hr1 hr4
       exact .inl ⟨want_none rfl,ocall rfl rfl Tryz.call62 rfl (wzsub (((hS.sl 10 rfl).zr hkxa).mono (by omega)) (((hS.sl 16 rfl).zr hk10).mono (by omega)) hz11) (args2 (ev rfl hv1) (ev rfl hv4)) callN⟩
      exact stepsNil
     ·
      intro vs ρ w36 f' hf hT hS
      obtain ⟨hv0,hr0⟩:=(hT 0 (by decide):(Is (.agg #[.bool (ng xb),.slice pxb nxb cxb])) _ _)
      obtain ⟨hv1,hr1⟩:=(hT 1 (by decide):(Is (.agg #[.bool (ng xa),.slice pxa nxa cxa])) _ _)
      obtain ⟨hv2,hr2⟩:=(hT 2 (by decide):(Is (.agg #[.bool (ng z8),.slice p8 n8 c8])) _ _)
      obtain ⟨hv3,hr3⟩:=(hT 3 (by decide):(Is (.agg #[.bool (ng xb),.slice pxb nxb cxb])) _ _)
      obtain ⟨p10,n10,c10,hv4,hr4⟩:=(hT 4 (by decide):(Zt z10) _ _)
      obtain ⟨p11,n11,c11,hv5,hr5⟩:=(hT 5 (by decide):(Zt z11) _ _)
      simp only [pool,if_true,hr0,hr1,hr2,hr3,hr4,hr5,List.nil_append,List.cons_append,List.append_nil] at hS
      simp only [layf,hv0,hv1,hv2,hv3,hv4,hv5] at hf
      subst hf; clear hT hv0 hv1 hv2 hv3 hv4 hv5 hr0 hr1 hr2 hr3 hr4 hr5
      refine wlate 6 rfl (by kernel_rfl) (ostore [.bool (ng xb),.slice pxb nxb cxb] [.bool (ng xb),.slice pxb nxb cxb] Tryz.sizeOf28 hS 10 rfl rfl (ev rfl rfl) (ev (v:=.agg #[.bool (ng xb),.slice pxb nxb cxb]) rfl rfl) rfl rfl rfl rfl rfl rfl ?_)
      clear hS; intro w37 hS
      refine ⟨heldNil,?_⟩
      refine wlate 7 rfl (by kernel_rfl) (ostore [.bool (ng z11),.slice p11 n11 c11] [.bool (ng z11),.slice p11 n11 c11] Tryz.sizeOf28 hS 9 rfl rfl (ev rfl rfl) (ev (v:=.agg #[.bool (ng z11),.slice p11 n11 c11]) rfl rfl) rfl rfl rfl rfl rfl rfl ?_)
      clear hS; intro w38 hS
      refine ⟨heldNil,?_⟩
      refine wdone rfl ?_
      refine blkN (thenN ?_)
      obtain ⟨hst2,hlt⟩:=Steps3.nextE (by omega) hst (by omega) hz8 hz9 hz10 hz11
      have hln9:n9 ≤ 2097152:=by rw [(hS.sl 5 rfl).lln]; exact hk9.mono (by omega)
      replace hS:=hS.asRd 5 rfl
      exact ⟨z9.natAbs,⟨_,rb,z9,xb,z11,_,_,_,_,_,_,_,_,_,_,_,_,_,_,brb,ng z9,act_sets (l:=[(1,.slice pm nm cm),(6,.pointer (some ⟨g1,0,none⟩)),(7,.int .i64 0),(9,.pointer (some ⟨g7,0,none⟩)),(10,.pointer (some ⟨g9,0,none⟩)),(11,.pointer (some ⟨g15,0,none⟩)),(12,.pointer (some ⟨g17,0,none⟩)),(13,.pointer (some ⟨g21,0,none⟩))]) ⟨rfl,rfl,rfl,rfl,rfl,rfl,rfl,rfl,trivial⟩,hS.pick [5,6,8,9,10,0,11,13,14,15,16,17] (by decide) rfl,hst2,rgo_step (by omega) hle hT hz8 hz9 hz10 hz11,rfl,(hkrb).mono (by omega),(hk9).mono (by omega),(hkxb).mono (by omega),hzm.wd.abs hst2.b1,hvrb,hnrb,(by rw [val_lim,zv_ng]),hln9⟩,by omega⟩
  ·
   have hcode:rce v m b = 1:=rce_1 (by omega)
   exact absurd h0 (by rw [hcode]; decide)
 ·
  have hcode:rce v m b = 1:=rce_1 (by omega)
  exact absurd h0 (by rw [hcode]; decide)
end Go.Proofs.YtjbcjlbbipohjaaGreatDoor
