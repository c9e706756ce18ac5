/-
  Contracts and lemmas, joined in one text.
-/
import Derived.Test.YtjnpdpcldmjdjaaGreatDoorC5
set_option linter.unusedVariables false
set_option linter.unusedSimpArgs false
/-
  The second part of similelaw06.CrtOf: two rounds over the iterator.
-/
set_option maxRecDepth 100000
set_option maxHeartbeats 16000000
namespace Go.Proofs.YtjnpdpcldmjdjaaGreatDoor
open Go.RowKit
def OV (gI gP gF gR g2 g3 i rd n c:Nat) (p:Option Addr) (S:Int) (pV:Option Addr) (nV cV:Nat) (pM:Option Addr) (nM cM:Nat) (pF:Option Addr) (cF:Nat) (K:List (Nat × Nat)) (FIX:List Res):List Res :=
  .blk gI [.int .i64 ((i:Nat):Int)] 3 :: .blk gP [.pointer (some ⟨gF,0,none⟩)] 30 :: .blk gF [.slice pV nV cV,.slice pM nM cM,.slice pF K.length cF] 37 :: .lst 45 2 pF K.length cF (rpE (rps K)) :: .row pV nV cV (lim (cv K).1) :: .row pM nM cM (lim (cv K).2) :: .blk gR [.int .i64 ((rd:Nat):Int)] 3 :: .blk g2 [.slice p n c] 22 :: .blk g3 [.int .i64 S] 3 :: FIX
def OI (L:List (Nat × Nat)) (gI gP gF gR g2 g3 rd n c:Nat) (p:Option Addr) (S:Int) (FIX:List Res) (pre:List Nat) (Rc:List Res):Prop :=
  ∃ pV nV cV pM nM cM pF cF,Rc = OV gI gP gF gR g2 g3 pre.length rd n c p S pV nV cV pM nM cM pF cF (L.take pre.length) FIX
def OX (L:List (Nat × Nat)) (gI gP gF gR g2 g3 rd n c:Nat) (p:Option Addr) (S:Int) (FIX:List Res) (e:Code) (pre:List Nat) (Rc:List Res):Prop :=
  e = .exit 4 ∧ rd = 0 ∧ ((pre.length:Nat):Int) = S ∧ OI L gI gP gF gR g2 g3 rd n c p S FIX pre Rc
def OJ (L:List (Nat × Nat)) (k gI gP gF gR g2 g3 rd n c:Nat) (p:Option Addr) (S:Int) (FIX:List Res) (Rc:List Res):Prop :=
  ∃ i,i ≤ k ∧ (i = k ∨ (rd = 0 ∧ ((i:Nat):Int) = S)) ∧ ∃ pV nV cV pM nM cM pF cF,Rc = OV gI gP gF gR g2 g3 i rd n c p S pV nV cV pM nM cM pF cF (L.take i) FIX
def OA (L:List (Nat × Nat)) (gI gP gF gR g2 g3 g4 rd n c:Nat) (p:Option Addr) (S:Int) (FIX:List Res) (pre:List Nat) (x:Nat) (f:Nat → Value) (Rc:List Res):Prop :=
 ∃ px nx cx py ny cy Rc0,Rc = .rowm px nx cx (lim (cv (L.take (x + 1))).1) :: .rowm py ny cy (lim (cv (L.take (x + 1))).2) :: Rc0 ∧
  AllAt f [(2,.pointer (some ⟨g2,0,none⟩)),(3,.pointer (some ⟨g3,0,none⟩)),(4,.pointer (some ⟨g4,0,none⟩)),(15,.pointer (some ⟨gR,0,none⟩)),(16,.pointer (some ⟨gP,0,none⟩)),(17,.pointer (some ⟨gI,0,none⟩)),(18,.slice px nx cx),(19,.slice py ny cy)] ∧ OI L gI gP gF gR g2 g3 rd n c p S FIX pre Rc0
theorem range_at {pre:List Nat} {x k:Nat} (h:pre ++ [x] <+: List.range k):x = pre.length ∧ pre.length < k:=by
  obtain ⟨t,ht⟩:=h
  have hl:=congrArg List.length ht
  simp only [List.length_append,List.length_range,List.length_singleton] at hl
  have e1:(pre ++ [x] ++ t)[pre.length]? = some x:=by simp [List.append_assoc]
  rw [ht,List.getElem?_range (by omega)] at e1
  exact ⟨(Option.some.inj e1).symm,by omega⟩
theorem pre_le {pre:List Nat} {k:Nat} (h:pre <+: List.range k):pre.length ≤ k:=by have:=h.length_le; simpa using this
theorem Sep.mid2 {w0 w:World} {Rf FIX:List Res} (A:List Res) (h:Sep w0 (A ++ (Rf ++ FIX)) w):Sep w0 (Rf ++ (A ++ FIX)) w:=Sep.front1 h
theorem crtof_round {k0_ k1_ k2_ k3_ k4_ k5_ k6_ k7_ k8_ k9_ k10_ k11_ k12_ k13_ k14_ k15_ cB:Code} {g_:Operand} {ps_:Array Nat} {as_:Code} (hc:(Tryz.f3).body = some (.seq k15_ (.seq k14_ (.seq k13_ (.seq k12_ (.seq k11_ (.seq k10_ (.seq k9_ (.seq k8_ (.seq (.seq k6_ (.block 2 (.loop (.seq k5_ (.seq (.block 3 (.seq k3_ (.seq k2_ (.seq (.seq k0_ (.block 4 (.rangeFunc g_ ps_ as_ cB))) k1_)))) k4_))))) k7_)))))))))) {l m i k:Nat} {L:List (Nat × Nat)} {f:Nat → Value} {T Rf:List Res} {gI gP gF gR g2 g3 g4 rd n c:Nat} {p:Option Addr} {Zs:Int} {FIX:List Res} {pvx pvy pV pM pF:Option Addr} {nvx cvx nvy cvy nV cV nM cM cF:Nat} {pre:List Nat} {w0 w:World} (ht:Tb w0) (hL:RS w0 p n L) (h32:∀ x ∈ L,x.1 < 4294967296 ∧ x.2 < 4294967296) (hlen:L.length ≤ 1048576) (hk:Far L k) (hf:AllAt f [(2,.pointer (some ⟨g2,0,none⟩)),(3,.pointer (some ⟨g3,0,none⟩)),(4,.pointer (some ⟨g4,0,none⟩)),(15,.pointer (some ⟨gR,0,none⟩)),(16,.pointer (some ⟨gP,0,none⟩)),(17,.pointer (some ⟨gI,0,none⟩)),(18,.slice pvx nvx cvx),(19,.slice pvy nvy cvy)]) (hik:i < k) (hpre:pre.length = i + 1) (hrd:rd < 2) (hT:T = Rf ++ FIX) (hS:Sep w0 (.rowm pvx nvx cvx (lim (cv (L.take (i + 1))).1) :: .rowm pvy nvy cvy (lim (cv (L.take (i + 1))).2) :: .blk gI [.int .i64 (((i:Nat):Int))] 3 :: .blk gP [.pointer (some ⟨gF,0,none⟩)] 30 :: .blk gF [.slice pV nV cV,.slice pM nM cM,.slice pF ((L.take i).length) cF] 37 :: .lst 45 2 pF ((L.take i).length) cF (rpE (rps (L.take i))) :: .row pV nV cV (lim (cv (L.take i)).1) :: .row pM nM cM (lim (cv (L.take i)).2) :: .blk gR [.int .i64 (((rd:Nat):Int))] 3 :: .blk g2 [.slice p n c] 22 :: .blk g3 [.int .i64 Zs] 3 :: T) w) :
  CR (some l) m Tryz.prog cB (roundEnd w0 (OI L gI gP gF gR g2 g3 rd n c p Zs FIX) (OX L gI gP gF gR g2 g3 rd n c p Zs FIX) Rf pre) (act 193 f) w:=by
 obtain rfl:=(Code.rangeFunc.inj (Code.block.inj (Code.seq.inj (Code.seq.inj (Code.seq.inj (Code.seq.inj (Code.block.inj (Code.seq.inj (Code.seq.inj (Code.loop.inj (Code.block.inj (Code.seq.inj (Code.seq.inj (Code.seq.inj (Code.seq.inj (Code.seq.inj (Code.seq.inj (Code.seq.inj (Code.seq.inj (Code.seq.inj (Code.seq.inj (Option.some.inj hc)).2).2).2).2).2).2).2).2).1).2).2)).2).1).2).2).2).1).2).2).2.2.2
 clear hc
 rw [aSs hf]
 have hkl:=hk.le
 have hn1:=hL.1
 obtain ⟨x,hx⟩:∃ x,L[i]? = some x:=⟨_,List.getElem?_eq_getElem (by omega)⟩
 obtain ⟨b,off,hpx,hcx⟩:=hL.2.2 _ x hx
 have hx32:=h32 x (List.mem_of_getElem? hx)
 have hlt:i < n:=by omega
 have hok:=hk.at (show i ≤ k by omega)
 have hok2:=hk.at (show i + 1 ≤ k from hik)
 have hwV:=hok.wV
 have hwM:=hok.wM
 have hwV2:=hok2.wV
 have hwM2:=hok2.wM
 have hz0:=hk.next hik hx
 have hK2:Hid (nxt (L.take i) (x.1,x.2) = L.take (i + 1)):=(nxt_ok hz0).trans (take_next hx).symm
 have he2:Hid (eno (mods (L.take i)) x.2 = 0):=hz0
 have q1:=(hS.slm 0 rfl).lln
 have q2:=(hS.slm 1 rfl).lln
 refine rblock (rseq (rseq ?_))
 refine istage (Ds:=[]) 16 [113,114,115,116,117,118,119,120,121,122,123,124,125,126,127,128] [[],[],[1],[0,2,1],[3,0,1,2],[4,0,1,2,3],[4,0,1,2,3],[4,0,1,2,3],[4,6,7,0,1,2,3],[4,8,0,1,2,3,6,7],[4,9,0,1,2,3,6,7,8],[4,0,1,2,3],[4,0,1,2,3],[4,11,12,0,1,2,3],[4,13,0,1,2,3,11,12],[4,14,0,1,2,3,11,12,13]] [[],[],[],[],[],[],[],[],[],[],[],[],[],[],[],[]] [] [] (fun i9 => ([fun _ => Is (.int .i64 (i:Int)),fun _ => Is (.slice p n c),fun _ => Is (.int .i64 (n:Int)),fun _ => Is (.bool false),fun _ => Is (.bool false),fun _ => Is (.pointer (some ⟨gF,0,none⟩)),fun _ => Is (.slice p n c),fun _ => Is (.int .i64 (i:Int)),fun _ => Is (.pointer (some ⟨b,(off + i * 2),none⟩)),fun _ => Is (.pointer (some ⟨b,((off + i * 2) + 0),none⟩)),fun _ => Is (.int .u32 (x.1:Int)),fun _ => Is (.slice p n c),fun _ => Is (.int .i64 (i:Int)),fun _ => Is (.pointer (some ⟨b,(off + i * 2),none⟩)),fun _ => Is (.pointer (some ⟨b,((off + i * 2) + 1),none⟩)),fun _ => Is (.int .u32 (x.2:Int))]:List (List Value → Tell)).getD i9 (fun _ _ _ => False)) hNi rfl (by rfl) (by kernel_rfl) (by kernel_rfl) hS ?_ ?_
 ·
  refine stH rfl (fun ho hS=>?_) ?_
  ·exact inNo rfl (oL1 oneI hS 2 rfl rfl (ev rfl (ho 17 rfl)) rfl rfl (nSm rfl isI))
  refine stH rfl (fun ho hS=>?_) ?_
  ·exact inNo rfl (oL1 ⟨Tryz.isAgg22,Tryz.sizeOf22⟩ hS 9 rfl rfl (ev rfl (ho 2 rfl)) rfl rfl (nSm rfl isI))
  refine stT rfl (fun hT hS=>?_) ?_
  ·obtain ⟨hv1,hr1⟩:=hT 1 114 rfl rfl
   obtain hS:=(hS.flat1 hr1).front1
   exact inNo rfl (olen rfl rfl rfl Tryz.runUnderlying22 (p:=p) (k:=n) (m:=c) (ev rfl hv1) (nSm rfl isI))
  refine stT rfl (fun hT hS=>?_) ?_
  ·obtain ⟨hv0,hr0⟩:=hT 0 113 rfl rfl
   obtain ⟨hv2,hr2⟩:=hT 2 115 rfl rfl
   obtain hS:=(hS.flat2 hr0 hr2).front2
   exact inNo rfl (obin rfl rfl (ev rfl hv0) (ev rfl hv2) (bin_geq (decide_eq_false (by omega))) (nSm rfl isI))
  refine stT rfl (fun hT hS=>?_) ?_
  ·obtain ⟨hv3,hr3⟩:=hT 3 116 rfl rfl
   obtain hS:=(hS.flat1 hr3).front1
   exact inNo rfl (omove rfl rfl (ev rfl hv3) (nSm rfl isI))
  refine stC rfl (fun _ _ _ _ _ ho hT hS _=>?_) ?_
  ·obtain ⟨hv4,hr4⟩:=hT 4 117 rfl rfl
   obtain hS:=(hS.flat1 hr4).front1
   exact .inl ⟨want_on (e:=117) rfl rfl rfl hv4,oL1 ⟨Tryz.isAgg30,Tryz.sizeOf30⟩ hS 3 rfl rfl (ev rfl (ho 16 rfl)) rfl rfl ⟨_,_,rfl,isI,New.same _⟩⟩
  refine stC rfl (fun _ _ _ _ _ ho hT hS _=>?_) ?_
  ·obtain ⟨hv4,hr4⟩:=hT 4 117 rfl rfl
   obtain hS:=(hS.flat1 hr4).front1
   exact .inl ⟨want_on (e:=117) rfl rfl rfl hv4,oL1 ⟨Tryz.isAgg22,Tryz.sizeOf22⟩ hS 9 rfl rfl (ev rfl (ho 2 rfl)) rfl rfl ⟨_,_,rfl,isI,New.same _⟩⟩
  refine stC rfl (fun _ _ _ _ _ ho hT hS _=>?_) ?_
  ·obtain ⟨hv4,hr4⟩:=hT 4 117 rfl rfl
   obtain hS:=(hS.flat1 hr4).front1
   exact .inl ⟨want_on (e:=117) rfl rfl rfl hv4,oL1 oneI hS 2 rfl rfl (ev rfl (ho 17 rfl)) rfl rfl ⟨_,_,rfl,isI,New.same _⟩⟩
  refine stT rfl (fun hT hS=>?_) ?_
  ·obtain ⟨hv4,hr4⟩:=hT 4 117 rfl rfl
   obtain ⟨hv6,hr6⟩:=hT 6 119 rfl rfl
   obtain ⟨hv7,hr7⟩:=hT 7 120 rfl rfl
   obtain hS:=(hS.flat3 hr4 hr6 hr7).front3
   exact .inl ⟨want_on (e:=117) rfl rfl rfl hv4,oIx (p:=p) (g:=b) (off:=off) (m:=n) (k:=i) (j:=(off + i * 2)) rfl rfl Tryz.runUnderlying22 Tryz.sizeOf45 (ev rfl hv6) hpx (ev rfl hv7) hlt rfl ⟨_,_,rfl,isI,New.same _⟩⟩
  refine stT rfl (fun hT hS=>?_) ?_
  ·obtain ⟨hv4,hr4⟩:=hT 4 117 rfl rfl
   obtain ⟨hv8,hr8⟩:=hT 8 121 rfl rfl
   obtain hS:=(hS.flat2 hr4 hr8).front2
   exact .inl ⟨want_on (e:=117) rfl rfl rfl hv4,oFA (g:=b) (off:=(off + i * 2)) ((off + i * 2) + 0) rfl rfl (ev rfl hv8) Tryz.runUnderlying45 rfl Tryz.sizeOf38 rfl ⟨_,_,rfl,isI,New.same _⟩⟩
  refine stT rfl (fun hT hS=>?_) ?_
  ·obtain ⟨hv4,hr4⟩:=hT 4 117 rfl rfl
   obtain ⟨hv9,hr9⟩:=hT 9 122 rfl rfl
   obtain hS:=(hS.flat2 hr4 hr9).front2
   exact .inl ⟨want_on (e:=117) rfl rfl rfl hv4,oLc one32 rfl rfl (ev rfl hv9) (hS.cellAt ((cell_sub (us:=[.int .u32 (x.1:Int)]) hcx 0 rfl) 0 _ rfl)) ⟨_,_,rfl,isI,New.same _⟩⟩
  refine stC rfl (fun _ _ _ _ _ ho hT hS _=>?_) ?_
  ·obtain ⟨hv4,hr4⟩:=hT 4 117 rfl rfl
   obtain hS:=(hS.flat1 hr4).front1
   exact .inl ⟨want_on (e:=117) rfl rfl rfl hv4,oL1 ⟨Tryz.isAgg22,Tryz.sizeOf22⟩ hS 9 rfl rfl (ev rfl (ho 2 rfl)) rfl rfl ⟨_,_,rfl,isI,New.same _⟩⟩
  refine stC rfl (fun _ _ _ _ _ ho hT hS _=>?_) ?_
  ·obtain ⟨hv4,hr4⟩:=hT 4 117 rfl rfl
   obtain hS:=(hS.flat1 hr4).front1
   exact .inl ⟨want_on (e:=117) rfl rfl rfl hv4,oL1 oneI hS 2 rfl rfl (ev rfl (ho 17 rfl)) rfl rfl ⟨_,_,rfl,isI,New.same _⟩⟩
  refine stT rfl (fun hT hS=>?_) ?_
  ·obtain ⟨hv4,hr4⟩:=hT 4 117 rfl rfl
   obtain ⟨hv11,hr11⟩:=hT 11 124 rfl rfl
   obtain ⟨hv12,hr12⟩:=hT 12 125 rfl rfl
   obtain hS:=(hS.flat3 hr4 hr11 hr12).front3
   exact .inl ⟨want_on (e:=117) rfl rfl rfl hv4,oIx (p:=p) (g:=b) (off:=off) (m:=n) (k:=i) (j:=(off + i * 2)) rfl rfl Tryz.runUnderlying22 Tryz.sizeOf45 (ev rfl hv11) hpx (ev rfl hv12) hlt rfl ⟨_,_,rfl,isI,New.same _⟩⟩
  refine stT rfl (fun hT hS=>?_) ?_
  ·obtain ⟨hv4,hr4⟩:=hT 4 117 rfl rfl
   obtain ⟨hv13,hr13⟩:=hT 13 126 rfl rfl
   obtain hS:=(hS.flat2 hr4 hr13).front2
   exact .inl ⟨want_on (e:=117) rfl rfl rfl hv4,oFA (g:=b) (off:=(off + i * 2)) ((off + i * 2) + 1) rfl rfl (ev rfl hv13) Tryz.runUnderlying45 rfl Tryz.sizeOf38 rfl ⟨_,_,rfl,isI,New.same _⟩⟩
  refine stT rfl (fun hT hS=>?_) ?_
  ·obtain ⟨hv4,hr4⟩:=hT 4 117 rfl rfl
   obtain ⟨hv14,hr14⟩:=hT 14 127 rfl rfl
   obtain hS:=(hS.flat2 hr4 hr14).front2
   exact .inl ⟨want_on (e:=117) rfl rfl rfl hv4,oLc one32 rfl rfl (ev rfl hv14) (hS.cellAt ((cell_sub (us:=[.int .u32 (x.2:Int)]) hcx 1 rfl) 0 _ rfl)) ⟨_,_,rfl,isI,New.same _⟩⟩
  exact sNi
 intro vs ρ w1 f' hf hT hS
 obtain ⟨hv0,hr0⟩:=hT 0 (by decide)
 obtain ⟨hv1,hr1⟩:=hT 1 (by decide)
 obtain ⟨hv2,hr2⟩:=hT 2 (by decide)
 obtain ⟨hv3,hr3⟩:=hT 3 (by decide)
 obtain ⟨hv4,hr4⟩:=hT 4 (by decide)
 obtain ⟨hv5,hr5⟩:=hT 5 (by decide)
 obtain ⟨hv6,hr6⟩:=hT 6 (by decide)
 obtain ⟨hv7,hr7⟩:=hT 7 (by decide)
 obtain ⟨hv8,hr8⟩:=hT 8 (by decide)
 obtain ⟨hv9,hr9⟩:=hT 9 (by decide)
 obtain ⟨hv10,hr10⟩:=hT 10 (by decide)
 obtain ⟨hv11,hr11⟩:=hT 11 (by decide)
 obtain ⟨hv12,hr12⟩:=hT 12 (by decide)
 obtain ⟨hv13,hr13⟩:=hT 13 (by decide)
 obtain ⟨hv14,hr14⟩:=hT 14 (by decide)
 obtain ⟨hv15,hr15⟩:=hT 15 (by decide)
 simp only [pool,if_true,hr0,hr1,hr2,hr3,hr4,hr5,hr6,hr7,hr8,hr9,hr10,hr11,hr12,hr13,hr14,hr15,List.nil_append,List.cons_append,List.append_nil] at hS
 simp only [layf,hv0,hv1,hv2,hv3,hv4,hv5,hv6,hv7,hv8,hv9,hv10,hv11,hv12,hv13,hv14,hv15] at hf
 subst hf; clear hT hv0 hv1 hv2 hv3 hv4 hv5 hv6 hv7 hv8 hv9 hv10 hv11 hv12 hv13 hv14 hv15 hr0 hr1 hr2 hr3 hr4 hr5 hr6 hr7 hr8 hr9 hr10 hr11 hr12 hr13 hr14 hr15
 obtain hS:=(show Sep w0 (.blk gF [.slice pV nV cV,.slice pM nM cM,.slice pF ((L.take i).length) cF] 37 :: .lst 45 2 pF ((L.take i).length) cF (rpE (rps (L.take i))) :: .row pV nV cV (lim (cv (L.take i)).1) :: .row pM nM cM (lim (cv (L.take i)).2) :: .rowm pvx nvx cvx (lim (cv (L.take (i + 1))).1) :: .rowm pvy nvy cvy (lim (cv (L.take (i + 1))).2) :: .blk gI [.int .i64 (((i:Nat):Int))] 3 :: .blk gP [.pointer (some ⟨gF,0,none⟩)] 30 :: .blk gR [.int .i64 (((rd:Nat):Int))] 3 :: .blk g2 [.slice p n c] 22 :: .blk g3 [.int .i64 Zs] 3 :: T) w1 from Sep.pickT [.rowm pvx nvx cvx (lim (cv (L.take (i + 1))).1),.rowm pvy nvy cvy (lim (cv (L.take (i + 1))).2),.blk gI [.int .i64 (((i:Nat):Int))] 3,.blk gP [.pointer (some ⟨gF,0,none⟩)] 30,.blk gF [.slice pV nV cV,.slice pM nM cM,.slice pF ((L.take i).length) cF] 37,.lst 45 2 pF ((L.take i).length) cF (rpE (rps (L.take i))),.row pV nV cV (lim (cv (L.take i)).1),.row pM nM cM (lim (cv (L.take i)).2),.blk gR [.int .i64 (((rd:Nat):Int))] 3,.blk g2 [.slice p n c] 22,.blk g3 [.int .i64 Zs] 3] [.blk gF [.slice pV nV cV,.slice pM nM cM,.slice pF ((L.take i).length) cF] 37,.lst 45 2 pF ((L.take i).length) cF (rpE (rps (L.take i))),.row pV nV cV (lim (cv (L.take i)).1),.row pM nM cM (lim (cv (L.take i)).2),.rowm pvx nvx cvx (lim (cv (L.take (i + 1))).1),.rowm pvy nvy cvy (lim (cv (L.take (i + 1))).2),.blk gI [.int .i64 (((i:Nat):Int))] 3,.blk gP [.pointer (some ⟨gF,0,none⟩)] 30,.blk gR [.int .i64 (((rd:Nat):Int))] 3,.blk g2 [.slice p n c] 22,.blk g3 [.int .i64 Zs] 3] hS [4,5,6,7,0,1,2,3,8,9,10] (by decide) rfl)
 refine ilateOn 16 (e:=117) rfl (by kernel_rfl) rfl rfl rfl rfl rfl (oCl rfl rfl Tryz.call12 rfl (wkaddA hok (by rw [List.length_take]; omega) hx32.1 hx32.2 hK2 he2 hS) (args3 (ev rfl rfl) (ev rfl rfl) (ev rfl rfl)) ?_)
 rintro _ w2 ⟨_,_,rfl,⟨pV2,nV2,cV2,pM2,nM2,cM2,pF2,cF2,rfl,rfl⟩,hN⟩
 refine ⟨_,rfl,?_⟩
 clear hS; have hS:=hN; clear hN
 refine ⟨hNi,?_⟩
 refine ilateOn 17 (e:=117) rfl (by kernel_rfl) rfl rfl rfl rfl rfl (obin rfl rfl (ev rfl rfl) evc (bNe (neF (by omega))) ?_)
 refine ⟨hNi,?_⟩
 refine ilate 18 rfl (by kernel_rfl) rfl (opick rfl rfl (ev rfl rfl) (ev rfl rfl) ?_)
 refine ⟨hNi,?_⟩
 refine ilate 19 rfl (by kernel_rfl) rfl (omove rfl rfl (ev rfl rfl) ?_)
 refine ⟨hNi,?_⟩
 refine istageL 20 6 26 rfl [113,114,115,116,117,118,119,120,121,122,123,124,125,126,127,128,129,130,131,132,133,134,135,136,137,138] [[],[],[1],[0,1,2],[0,1,2,3],[0,1,2,3,4],[0,1,2,3,4],[0,1,2,3,4],[0,1,2,3,4,6,7],[0,1,2,3,4,6,7,8],[0,1,2,3,4,6,7,8,9],[0,1,2,3,4],[0,1,2,3,4],[0,1,2,3,4,11,12],[0,1,2,3,4,11,12,13],[0,1,2,3,4,11,12,13,14],[0,1,2,3,4,5,6,7,8,9,10,11,12,13,14,15],[0,1,2,3,4,5,6,7,8,9,10,11,12,13,14,15,16],[0,1,2,3,4,5,6,7,8,9,10,11,12,13,14,15,16,17],[0,1,2,3,4,5,6,7,8,9,10,11,12,13,14,15,16,17,18],[19,0,1,2,3,4,5,6,7,8,9,10,11,12,13,14,15,16,17,18],[19,0,1,2,3,4,5,6,7,8,9,10,11,12,13,14,15,16,17,18],[19,21,0,1,2,3,4,5,6,7,8,9,10,11,12,13,14,15,16,17,18],[19,22,0,1,2,3,4,5,6,7,8,9,10,11,12,13,14,15,16,17,18,21],[19,23,0,1,2,3,4,5,6,7,8,9,10,11,12,13,14,15,16,17,18,21,22],[19,20,24,0,1,2,3,4,5,6,7,8,9,10,11,12,13,14,15,16,17,18,21,22,23]] [[],[],[],[],[],[],[],[],[],[],[],[],[],[],[],[],[],[],[],[],[],[],[],[],[],[]] [] [] (fun i9 => ([fun _ => Is (.int .i64 (i:Int)),fun _ => Is (.slice p n c),fun _ => Is (.int .i64 (n:Int)),fun _ => Is (.bool false),fun _ => Is (.bool false),fun _ => Is (.pointer (some ⟨gF,0,none⟩)),fun _ => Is (.slice p n c),fun _ => Is (.int .i64 (i:Int)),fun _ => Is (.pointer (some ⟨b,(off + i * 2),none⟩)),fun _ => Is (.pointer (some ⟨b,((off + i * 2) + 0),none⟩)),fun _ => Is (.int .u32 (x.1:Int)),fun _ => Is (.slice p n c),fun _ => Is (.int .i64 (i:Int)),fun _ => Is (.pointer (some ⟨b,(off + i * 2),none⟩)),fun _ => Is (.pointer (some ⟨b,((off + i * 2) + 1),none⟩)),fun _ => Is (.int .u32 (x.2:Int)),fun _ => Is (.int .i64 ((0:Nat):Int)),fun _ => Is (.bool false),fun _ => Is (.bool false),fun _ => Is (.bool false),fun _ => Is (.slice pvx nvx cvx),fun _ => Is (.pointer (some ⟨gF,0,none⟩)),fun _ => Is (.pointer (some ⟨gF,0,none⟩)),fun _ => Is (.pointer (some ⟨gF,0,none⟩)),fun _ => Is (.slice pV2 nV2 cV2),fun _ => Is (.bool true)]:List (List Value → Tell)).getD i9 (fun _ _ _ => False)) hNi rfl (by rfl) (by kernel_rfl) (by kernel_rfl) (fun i hi => by
   match i,hi with
   | 0,_ => exact ⟨rfl,rfl⟩
   | 1,_ => exact ⟨rfl,rfl⟩
   | 2,_ => exact ⟨rfl,rfl⟩
   | 3,_ => exact ⟨rfl,rfl⟩
   | 4,_ => exact ⟨rfl,rfl⟩
   | 5,_ => exact ⟨rfl,rfl⟩
   | 6,_ => exact ⟨rfl,rfl⟩
   | 7,_ => exact ⟨rfl,rfl⟩
   | 8,_ => exact ⟨rfl,rfl⟩
   | 9,_ => exact ⟨rfl,rfl⟩
   | 10,_ => exact ⟨rfl,rfl⟩
   | 11,_ => exact ⟨rfl,rfl⟩
   | 12,_ => exact ⟨rfl,rfl⟩
   | 13,_ => exact ⟨rfl,rfl⟩
   | 14,_ => exact ⟨rfl,rfl⟩
   | 15,_ => exact ⟨rfl,rfl⟩
   | 16,_ => exact ⟨rfl,rfl⟩
   | 17,_ => exact ⟨rfl,rfl⟩
   | 18,_ => exact ⟨rfl,rfl⟩
   | 19,_ => exact ⟨rfl,rfl⟩
   | i9 + 20,h9 => exact absurd h9 (by omega)) hS ?_ ?_
 ·
  refine stC rfl (fun _ _ _ _ _ ho hT hS _=>?_) ?_
  ·obtain ⟨hv19,hr19⟩:=hT 19 132 rfl rfl
   obtain hS:=(hS.flat1 hr19).front1
   exact .inl ⟨want_on (e:=132) rfl rfl rfl hv19,omove rfl rfl (ev rfl (ho 18 rfl)) ⟨_,_,rfl,isI,New.same _⟩⟩
  refine stC rfl (fun _ _ _ _ _ ho hT hS _=>?_) ?_
  ·obtain ⟨hv19,hr19⟩:=hT 19 132 rfl rfl
   obtain hS:=(hS.flat1 hr19).front1
   exact .inl ⟨want_on (e:=132) rfl rfl rfl hv19,oL1 ⟨Tryz.isAgg30,Tryz.sizeOf30⟩ hS 7 rfl rfl (ev rfl (ho 16 rfl)) rfl rfl ⟨_,_,rfl,isI,New.same _⟩⟩
  refine stT rfl (fun hT hS=>?_) ?_
  ·obtain ⟨hv19,hr19⟩:=hT 19 132 rfl rfl
   obtain ⟨hv21,hr21⟩:=hT 21 134 rfl rfl
   obtain hS:=(hS.flat2 hr19 hr21).front2
   exact .inl ⟨want_on (e:=132) rfl rfl rfl hv19,oNC (a:=⟨gF,0,none⟩) rfl rfl (ev rfl hv21) ⟨_,_,rfl,isI,New.same _⟩⟩
  refine stT rfl (fun hT hS=>?_) ?_
  ·obtain ⟨hv19,hr19⟩:=hT 19 132 rfl rfl
   obtain ⟨hv22,hr22⟩:=hT 22 135 rfl rfl
   obtain hS:=(hS.flat2 hr19 hr22).front2
   exact .inl ⟨want_on (e:=132) rfl rfl rfl hv19,oFA (g:=gF) (off:=0) 0 rfl rfl (ev rfl hv22) Tryz.runUnderlying37 rfl Tryz.sizeOf24 rfl ⟨_,_,rfl,isI,New.same _⟩⟩
  refine stT rfl (fun hT hS=>?_) ?_
  ·obtain ⟨hv19,hr19⟩:=hT 19 132 rfl rfl
   obtain ⟨hv23,hr23⟩:=hT 23 136 rfl rfl
   obtain hS:=(hS.flat2 hr19 hr23).front2
   exact .inl ⟨want_on (e:=132) rfl rfl rfl hv19,oL1 oneN hS 0 rfl rfl (ev rfl hv23) rfl rfl ⟨_,_,rfl,isI,New.same _⟩⟩
  refine stT rfl (fun hT hS=>?_) ?_
  ·obtain ⟨hv19,hr19⟩:=hT 19 132 rfl rfl
   obtain ⟨hv20,hr20⟩:=hT 20 133 rfl rfl
   obtain ⟨hv24,hr24⟩:=hT 24 137 rfl rfl
   obtain hS:=(hS.flat3 hr19 hr20 hr24).front3
   exact .inl ⟨want_on (e:=132) rfl rfl rfl hv19,oCl rfl rfl Tryz.call9 rfl (wlsame6 (x:=(cv (L.take (i + 1))).1) (y:=(cv (L.take (i + 1))).1) (hS.slm 4 rfl) (((hS.sl 2 rfl).nr hwV2).mono (by omega)) (rfl)) (ar2 (ev rfl hv20) (ev rfl hv24)) cNw⟩
  exact sNi
 intro vs ρ w3 f' hf hT hS
 obtain ⟨hv0,hr0⟩:=hT 0 (by decide)
 obtain ⟨hv1,hr1⟩:=hT 1 (by decide)
 obtain ⟨hv2,hr2⟩:=hT 2 (by decide)
 obtain ⟨hv3,hr3⟩:=hT 3 (by decide)
 obtain ⟨hv4,hr4⟩:=hT 4 (by decide)
 obtain ⟨hv5,hr5⟩:=hT 5 (by decide)
 obtain ⟨hv6,hr6⟩:=hT 6 (by decide)
 obtain ⟨hv7,hr7⟩:=hT 7 (by decide)
 obtain ⟨hv8,hr8⟩:=hT 8 (by decide)
 obtain ⟨hv9,hr9⟩:=hT 9 (by decide)
 obtain ⟨hv10,hr10⟩:=hT 10 (by decide)
 obtain ⟨hv11,hr11⟩:=hT 11 (by decide)
 obtain ⟨hv12,hr12⟩:=hT 12 (by decide)
 obtain ⟨hv13,hr13⟩:=hT 13 (by decide)
 obtain ⟨hv14,hr14⟩:=hT 14 (by decide)
 obtain ⟨hv15,hr15⟩:=hT 15 (by decide)
 obtain ⟨hv16,hr16⟩:=hT 16 (by decide)
 obtain ⟨hv17,hr17⟩:=hT 17 (by decide)
 obtain ⟨hv18,hr18⟩:=hT 18 (by decide)
 obtain ⟨hv19,hr19⟩:=hT 19 (by decide)
 obtain ⟨hv20,hr20⟩:=hT 20 (by decide)
 obtain ⟨hv21,hr21⟩:=hT 21 (by decide)
 obtain ⟨hv22,hr22⟩:=hT 22 (by decide)
 obtain ⟨hv23,hr23⟩:=hT 23 (by decide)
 obtain ⟨hv24,hr24⟩:=hT 24 (by decide)
 obtain ⟨hv25,hr25⟩:=hT 25 (by decide)
 simp only [pool,if_true,hr0,hr1,hr2,hr3,hr4,hr5,hr6,hr7,hr8,hr9,hr10,hr11,hr12,hr13,hr14,hr15,hr16,hr17,hr18,hr19,hr20,hr21,hr22,hr23,hr24,hr25,List.nil_append,List.cons_append,List.append_nil] at hS
 simp only [layf,hv0,hv1,hv2,hv3,hv4,hv5,hv6,hv7,hv8,hv9,hv10,hv11,hv12,hv13,hv14,hv15,hv16,hv17,hv18,hv19,hv20,hv21,hv22,hv23,hv24,hv25] at hf
 subst hf; clear hT hv0 hv1 hv2 hv3 hv4 hv5 hv6 hv7 hv8 hv9 hv10 hv11 hv12 hv13 hv14 hv15 hv16 hv17 hv18 hv19 hv20 hv21 hv22 hv23 hv24 hv25 hr0 hr1 hr2 hr3 hr4 hr5 hr6 hr7 hr8 hr9 hr10 hr11 hr12 hr13 hr14 hr15 hr16 hr17 hr18 hr19 hr20 hr21 hr22 hr23 hr24 hr25
 refine ilateOn 26 (e:=132) rfl (by kernel_rfl) rfl rfl rfl rfl rfl (onot rfl rfl (ev rfl rfl) ?_)
 refine ⟨hNi,?_⟩
 refine ilate 27 rfl (by kernel_rfl) rfl (opick rfl rfl (ev rfl rfl) (ev rfl rfl) ?_)
 refine ⟨hNi,?_⟩
 refine ilate 28 rfl (by kernel_rfl) rfl (omove rfl rfl (ev rfl rfl) ?_)
 refine ⟨hNi,?_⟩
 refine istageL 29 6 35 rfl [113,114,115,116,117,118,119,120,121,122,123,124,125,126,127,128,129,130,131,132,133,134,135,136,137,138,139,140,141,142,143,144,145,146,147] [[],[],[1],[0,1,2],[0,1,2,3],[0,1,2,3,4],[0,1,2,3,4],[0,1,2,3,4],[0,1,2,3,4,6,7],[0,1,2,3,4,6,7,8],[0,1,2,3,4,6,7,8,9],[0,1,2,3,4],[0,1,2,3,4],[0,1,2,3,4,11,12],[0,1,2,3,4,11,12,13],[0,1,2,3,4,11,12,13,14],[0,1,2,3,4,5,6,7,8,9,10,11,12,13,14,15],[0,1,2,3,4,5,6,7,8,9,10,11,12,13,14,15,16],[0,1,2,3,4,5,6,7,8,9,10,11,12,13,14,15,16,17],[0,1,2,3,4,5,6,7,8,9,10,11,12,13,14,15,16,17,18],[0,1,2,3,4,5,6,7,8,9,10,11,12,13,14,15,16,17,18,19],[0,1,2,3,4,5,6,7,8,9,10,11,12,13,14,15,16,17,18,19],[0,1,2,3,4,5,6,7,8,9,10,11,12,13,14,15,16,17,18,19,21],[0,1,2,3,4,5,6,7,8,9,10,11,12,13,14,15,16,17,18,19,21,22],[0,1,2,3,4,5,6,7,8,9,10,11,12,13,14,15,16,17,18,19,21,22,23],[0,1,2,3,4,5,6,7,8,9,10,11,12,13,14,15,16,17,18,19,20,21,22,23,24],[0,1,2,3,4,5,6,7,8,9,10,11,12,13,14,15,16,17,18,19,20,21,22,23,24,25],[0,1,2,3,4,5,6,7,8,9,10,11,12,13,14,15,16,17,18,19,20,21,22,23,24,25,26],[0,1,2,3,4,5,6,7,8,9,10,11,12,13,14,15,16,17,18,19,20,21,22,23,24,25,26,27],[28,0,1,2,3,4,5,6,7,8,9,10,11,12,13,14,15,16,17,18,19,20,21,22,23,24,25,26,27],[28,0,1,2,3,4,5,6,7,8,9,10,11,12,13,14,15,16,17,18,19,20,21,22,23,24,25,26,27],[28,30,0,1,2,3,4,5,6,7,8,9,10,11,12,13,14,15,16,17,18,19,20,21,22,23,24,25,26,27],[28,31,0,1,2,3,4,5,6,7,8,9,10,11,12,13,14,15,16,17,18,19,20,21,22,23,24,25,26,27,30],[28,32,0,1,2,3,4,5,6,7,8,9,10,11,12,13,14,15,16,17,18,19,20,21,22,23,24,25,26,27,30,31],[28,29,33,0,1,2,3,4,5,6,7,8,9,10,11,12,13,14,15,16,17,18,19,20,21,22,23,24,25,26,27,30,31,32]] [[],[],[],[],[],[],[],[],[],[],[],[],[],[],[],[],[],[],[],[],[],[],[],[],[],[],[],[],[],[],[],[],[],[],[]] [] [] (fun i9 => ([fun _ => Is (.int .i64 (i:Int)),fun _ => Is (.slice p n c),fun _ => Is (.int .i64 (n:Int)),fun _ => Is (.bool false),fun _ => Is (.bool false),fun _ => Is (.pointer (some ⟨gF,0,none⟩)),fun _ => Is (.slice p n c),fun _ => Is (.int .i64 (i:Int)),fun _ => Is (.pointer (some ⟨b,(off + i * 2),none⟩)),fun _ => Is (.pointer (some ⟨b,((off + i * 2) + 0),none⟩)),fun _ => Is (.int .u32 (x.1:Int)),fun _ => Is (.slice p n c),fun _ => Is (.int .i64 (i:Int)),fun _ => Is (.pointer (some ⟨b,(off + i * 2),none⟩)),fun _ => Is (.pointer (some ⟨b,((off + i * 2) + 1),none⟩)),fun _ => Is (.int .u32 (x.2:Int)),fun _ => Is (.int .i64 ((0:Nat):Int)),fun _ => Is (.bool false),fun _ => Is (.bool false),fun _ => Is (.bool false),fun _ => Is (.slice pvx nvx cvx),fun _ => Is (.pointer (some ⟨gF,0,none⟩)),fun _ => Is (.pointer (some ⟨gF,0,none⟩)),fun _ => Is (.pointer (some ⟨gF,0,none⟩)),fun _ => Is (.slice pV2 nV2 cV2),fun _ => Is (.bool true),fun _ => Is (.bool false),fun _ => Is (.bool false),fun _ => Is (.bool false),fun _ => Is (.slice pvy nvy cvy),fun _ => Is (.pointer (some ⟨gF,0,none⟩)),fun _ => Is (.pointer (some ⟨gF,0,none⟩)),fun _ => Is (.pointer (some ⟨gF,1,none⟩)),fun _ => Is (.slice pM2 nM2 cM2),fun _ => Is (.bool true)]:List (List Value → Tell)).getD i9 (fun _ _ _ => False)) hNi rfl (by rfl) (by kernel_rfl) (by kernel_rfl) (fun i hi => by
   match i,hi with
   | 0,_ => exact ⟨rfl,rfl⟩
   | 1,_ => exact ⟨rfl,rfl⟩
   | 2,_ => exact ⟨rfl,rfl⟩
   | 3,_ => exact ⟨rfl,rfl⟩
   | 4,_ => exact ⟨rfl,rfl⟩
   | 5,_ => exact ⟨rfl,rfl⟩
   | 6,_ => exact ⟨rfl,rfl⟩
   | 7,_ => exact ⟨rfl,rfl⟩
   | 8,_ => exact ⟨rfl,rfl⟩
   | 9,_ => exact ⟨rfl,rfl⟩
   | 10,_ => exact ⟨rfl,rfl⟩
   | 11,_ => exact ⟨rfl,rfl⟩
   | 12,_ => exact ⟨rfl,rfl⟩
   | 13,_ => exact ⟨rfl,rfl⟩
   | 14,_ => exact ⟨rfl,rfl⟩
   | 15,_ => exact ⟨rfl,rfl⟩
   | 16,_ => exact ⟨rfl,rfl⟩
   | 17,_ => exact ⟨rfl,rfl⟩
   | 18,_ => exact ⟨rfl,rfl⟩
   | 19,_ => exact ⟨rfl,rfl⟩
   | 20,_ => exact ⟨rfl,rfl⟩
   | 21,_ => exact ⟨rfl,rfl⟩
   | 22,_ => exact ⟨rfl,rfl⟩
   | 23,_ => exact ⟨rfl,rfl⟩
   | 24,_ => exact ⟨rfl,rfl⟩
   | 25,_ => exact ⟨rfl,rfl⟩
   | 26,_ => exact ⟨rfl,rfl⟩
   | 27,_ => exact ⟨rfl,rfl⟩
   | 28,_ => exact ⟨rfl,rfl⟩
   | i9 + 29,h9 => exact absurd h9 (by omega)) hS ?_ ?_
 ·
  refine stC rfl (fun _ _ _ _ _ ho hT hS _=>?_) ?_
  ·obtain ⟨hv28,hr28⟩:=hT 28 141 rfl rfl
   obtain hS:=(hS.flat1 hr28).front1
   exact .inl ⟨want_on (e:=141) rfl rfl rfl hv28,omove rfl rfl (ev rfl (ho 19 rfl)) ⟨_,_,rfl,isI,New.same _⟩⟩
  refine stC rfl (fun _ _ _ _ _ ho hT hS _=>?_) ?_
  ·obtain ⟨hv28,hr28⟩:=hT 28 141 rfl rfl
   obtain hS:=(hS.flat1 hr28).front1
   exact .inl ⟨want_on (e:=141) rfl rfl rfl hv28,oL1 ⟨Tryz.isAgg30,Tryz.sizeOf30⟩ hS 7 rfl rfl (ev rfl (ho 16 rfl)) rfl rfl ⟨_,_,rfl,isI,New.same _⟩⟩
  refine stT rfl (fun hT hS=>?_) ?_
  ·obtain ⟨hv28,hr28⟩:=hT 28 141 rfl rfl
   obtain ⟨hv30,hr30⟩:=hT 30 143 rfl rfl
   obtain hS:=(hS.flat2 hr28 hr30).front2
   exact .inl ⟨want_on (e:=141) rfl rfl rfl hv28,oNC (a:=⟨gF,0,none⟩) rfl rfl (ev rfl hv30) ⟨_,_,rfl,isI,New.same _⟩⟩
  refine stT rfl (fun hT hS=>?_) ?_
  ·obtain ⟨hv28,hr28⟩:=hT 28 141 rfl rfl
   obtain ⟨hv31,hr31⟩:=hT 31 144 rfl rfl
   obtain hS:=(hS.flat2 hr28 hr31).front2
   exact .inl ⟨want_on (e:=141) rfl rfl rfl hv28,oFA (g:=gF) (off:=0) 1 rfl rfl (ev rfl hv31) Tryz.runUnderlying37 rfl Tryz.sizeOf24 rfl ⟨_,_,rfl,isI,New.same _⟩⟩
  refine stT rfl (fun hT hS=>?_) ?_
  ·obtain ⟨hv28,hr28⟩:=hT 28 141 rfl rfl
   obtain ⟨hv32,hr32⟩:=hT 32 145 rfl rfl
   obtain hS:=(hS.flat2 hr28 hr32).front2
   exact .inl ⟨want_on (e:=141) rfl rfl rfl hv28,oL1 oneN hS 0 rfl rfl (ev rfl hv32) rfl rfl ⟨_,_,rfl,isI,New.same _⟩⟩
  refine stT rfl (fun hT hS=>?_) ?_
  ·obtain ⟨hv28,hr28⟩:=hT 28 141 rfl rfl
   obtain ⟨hv29,hr29⟩:=hT 29 142 rfl rfl
   obtain ⟨hv33,hr33⟩:=hT 33 146 rfl rfl
   obtain hS:=(hS.flat3 hr28 hr29 hr33).front3
   exact .inl ⟨want_on (e:=141) rfl rfl rfl hv28,oCl rfl rfl Tryz.call9 rfl (wlsame6 (x:=(cv (L.take (i + 1))).2) (y:=(cv (L.take (i + 1))).2) (hS.slm 5 rfl) (((hS.sl 3 rfl).nr hwM2).mono (by omega)) (rfl)) (ar2 (ev rfl hv29) (ev rfl hv33)) cNw⟩
  exact sNi
 intro vs ρ w4 f' hf hT hS
 obtain ⟨hv0,hr0⟩:=hT 0 (by decide)
 obtain ⟨hv1,hr1⟩:=hT 1 (by decide)
 obtain ⟨hv2,hr2⟩:=hT 2 (by decide)
 obtain ⟨hv3,hr3⟩:=hT 3 (by decide)
 obtain ⟨hv4,hr4⟩:=hT 4 (by decide)
 obtain ⟨hv5,hr5⟩:=hT 5 (by decide)
 obtain ⟨hv6,hr6⟩:=hT 6 (by decide)
 obtain ⟨hv7,hr7⟩:=hT 7 (by decide)
 obtain ⟨hv8,hr8⟩:=hT 8 (by decide)
 obtain ⟨hv9,hr9⟩:=hT 9 (by decide)
 obtain ⟨hv10,hr10⟩:=hT 10 (by decide)
 obtain ⟨hv11,hr11⟩:=hT 11 (by decide)
 obtain ⟨hv12,hr12⟩:=hT 12 (by decide)
 obtain ⟨hv13,hr13⟩:=hT 13 (by decide)
 obtain ⟨hv14,hr14⟩:=hT 14 (by decide)
 obtain ⟨hv15,hr15⟩:=hT 15 (by decide)
 obtain ⟨hv16,hr16⟩:=hT 16 (by decide)
 obtain ⟨hv17,hr17⟩:=hT 17 (by decide)
 obtain ⟨hv18,hr18⟩:=hT 18 (by decide)
 obtain ⟨hv19,hr19⟩:=hT 19 (by decide)
 obtain ⟨hv20,hr20⟩:=hT 20 (by decide)
 obtain ⟨hv21,hr21⟩:=hT 21 (by decide)
 obtain ⟨hv22,hr22⟩:=hT 22 (by decide)
 obtain ⟨hv23,hr23⟩:=hT 23 (by decide)
 obtain ⟨hv24,hr24⟩:=hT 24 (by decide)
 obtain ⟨hv25,hr25⟩:=hT 25 (by decide)
 obtain ⟨hv26,hr26⟩:=hT 26 (by decide)
 obtain ⟨hv27,hr27⟩:=hT 27 (by decide)
 obtain ⟨hv28,hr28⟩:=hT 28 (by decide)
 obtain ⟨hv29,hr29⟩:=hT 29 (by decide)
 obtain ⟨hv30,hr30⟩:=hT 30 (by decide)
 obtain ⟨hv31,hr31⟩:=hT 31 (by decide)
 obtain ⟨hv32,hr32⟩:=hT 32 (by decide)
 obtain ⟨hv33,hr33⟩:=hT 33 (by decide)
 obtain ⟨hv34,hr34⟩:=hT 34 (by decide)
 simp only [pool,if_true,hr0,hr1,hr2,hr3,hr4,hr5,hr6,hr7,hr8,hr9,hr10,hr11,hr12,hr13,hr14,hr15,hr16,hr17,hr18,hr19,hr20,hr21,hr22,hr23,hr24,hr25,hr26,hr27,hr28,hr29,hr30,hr31,hr32,hr33,hr34,List.nil_append,List.cons_append,List.append_nil] at hS
 simp only [layf,hv0,hv1,hv2,hv3,hv4,hv5,hv6,hv7,hv8,hv9,hv10,hv11,hv12,hv13,hv14,hv15,hv16,hv17,hv18,hv19,hv20,hv21,hv22,hv23,hv24,hv25,hv26,hv27,hv28,hv29,hv30,hv31,hv32,hv33,hv34] at hf
 subst hf; clear hT hv0 hv1 hv2 hv3 hv4 hv5 hv6 hv7 hv8 hv9 hv10 hv11 hv12 hv13 hv14 hv15 hv16 hv17 hv18 hv19 hv20 hv21 hv22 hv23 hv24 hv25 hv26 hv27 hv28 hv29 hv30 hv31 hv32 hv33 hv34 hr0 hr1 hr2 hr3 hr4 hr5 hr6 hr7 hr8 hr9 hr10 hr11 hr12 hr13 hr14 hr15 hr16 hr17 hr18 hr19 hr20 hr21 hr22 hr23 hr24 hr25 hr26 hr27 hr28 hr29 hr30 hr31 hr32 hr33 hr34
 refine ilateOn 35 (e:=141) rfl (by kernel_rfl) rfl rfl rfl rfl rfl (onot rfl rfl (ev rfl rfl) ?_)
 refine ⟨hNi,?_⟩
 refine ilate 36 rfl (by kernel_rfl) rfl (opick rfl rfl (ev rfl rfl) (ev rfl rfl) ?_)
 refine ⟨hNi,?_⟩
 refine idone0 rfl ?_
 refine tNo ?_
 refine rF (ev rfl rfl) ?_
 refine rskip (tNo (rseq (rreg ?_)))
 refine rl rfl rfl (omove rfl rfl (ev rfl rfl) ?_)
 refine rl rfl rfl (omove rfl rfl (ev rfl rfl) ?_)
 refine rl rfl rfl (obslice (ps:=#[(0,.slice pvx nvx cvx),(1,.slice pvy nvy cvy)]) (z:=.slice none 0 0) [.slice pvx nvx cvx,.slice pvy nvy cvy] hS rfl rfl Tryz.runUnderlying74 Tryz.sizeOf24 Tryz.zeroValue24 (parts2 (ev (v:=.slice pvx nvx cvx) rfl rfl) (ev (v:=.slice pvy nvy cvy) rfl rfl)) rfl (by decide) (fill1_2s rfl rfl rfl) ?_)
 clear hS; intro g5 w6 hS
 obtain hS:=(show Sep w0 (.blk g5 [.slice pvx nvx cvx,.slice pvy nvy cvy] 24 :: .rowm pvx nvx cvx (lim (cv (L.take (i + 1))).1) :: .rowm pvy nvy cvy (lim (cv (L.take (i + 1))).2) :: .blk gF [.slice pV2 nV2 cV2,.slice pM2 nM2 cM2,.slice pF2 ((L.take (i + 1)).length) cF2] 37 :: .lst 45 2 pF2 ((L.take (i + 1)).length) cF2 (rpE (rps (L.take (i + 1)))) :: .row pV2 nV2 cV2 (lim (cv (L.take (i + 1))).1) :: .row pM2 nM2 cM2 (lim (cv (L.take (i + 1))).2) :: .blk gI [.int .i64 (((i:Nat):Int))] 3 :: .blk gP [.pointer (some ⟨gF,0,none⟩)] 30 :: .blk gR [.int .i64 (((rd:Nat):Int))] 3 :: .blk g2 [.slice p n c] 22 :: .blk g3 [.int .i64 Zs] 3 :: T) w6 from Sep.pickT [.blk g5 [.slice pvx nvx cvx,.slice pvy nvy cvy] 24,.blk gF [.slice pV2 nV2 cV2,.slice pM2 nM2 cM2,.slice pF2 ((L.take (i + 1)).length) cF2] 37,.lst 45 2 pF2 ((L.take (i + 1)).length) cF2 (rpE (rps (L.take (i + 1)))),.row pV2 nV2 cV2 (lim (cv (L.take (i + 1))).1),.row pM2 nM2 cM2 (lim (cv (L.take (i + 1))).2),.rowm pvx nvx cvx (lim (cv (L.take (i + 1))).1),.rowm pvy nvy cvy (lim (cv (L.take (i + 1))).2),.blk gI [.int .i64 (((i:Nat):Int))] 3,.blk gP [.pointer (some ⟨gF,0,none⟩)] 30,.blk gR [.int .i64 (((rd:Nat):Int))] 3,.blk g2 [.slice p n c] 22,.blk g3 [.int .i64 Zs] 3] [.blk g5 [.slice pvx nvx cvx,.slice pvy nvy cvy] 24,.rowm pvx nvx cvx (lim (cv (L.take (i + 1))).1),.rowm pvy nvy cvy (lim (cv (L.take (i + 1))).2),.blk gF [.slice pV2 nV2 cV2,.slice pM2 nM2 cM2,.slice pF2 ((L.take (i + 1)).length) cF2] 37,.lst 45 2 pF2 ((L.take (i + 1)).length) cF2 (rpE (rps (L.take (i + 1)))),.row pV2 nV2 cV2 (lim (cv (L.take (i + 1))).1),.row pM2 nM2 cM2 (lim (cv (L.take (i + 1))).2),.blk gI [.int .i64 (((i:Nat):Int))] 3,.blk gP [.pointer (some ⟨gF,0,none⟩)] 30,.blk gR [.int .i64 (((rd:Nat):Int))] 3,.blk g2 [.slice p n c] 22,.blk g3 [.int .i64 Zs] 3] hS [0,5,6,1,2,3,4,7,8,9,10,11] (by decide) rfl)
 refine rl rfl rfl (oCl rfl rfl Tryz.call13 rfl (wlspoil2 hS (by omega) (by omega)) (ar1 (ev rfl rfl)) ?_)
 rintro _ w7 ⟨_,_,rfl,⟨rfl,rfl⟩,hN⟩
 refine ⟨_,rfl,?_⟩
 clear hS; have hS:=hN; clear hN
 refine rnil (tNo (rseq (rreg ?_)))
 refine rl rfl rfl (oL1 oneI hS 4 rfl rfl (ev rfl rfl) rfl rfl ?_)
 refine rl rfl rfl (obin (z:=.int .i64 ((i + 1:Nat):Int)) rfl rfl (ev rfl rfl) evc (bAd (wI6 (by omega) (by omega))) ?_)
 refine rl rfl rfl (oSt _ _ Tryz.sizeOf3 hS 4 rfl rfl (ev rfl rfl) (ev rfl rfl) rfl rfl rfl rfl rfl rfl ?_)
 clear hS; intro w8 hS
 refine rnil (tNo (rseq (rreg ?_)))
 refine rl rfl rfl (oL1 oneI hS 6 rfl rfl (ev rfl rfl) rfl rfl ?_)
 by_cases hrd0:rd = 0
 ·
  refine rl rfl rfl (obin rfl rfl (ev rfl rfl) evc (bEq (eqT (by omega))) ?_)
  refine rl rfl rfl (omove rfl rfl (ev rfl rfl) ?_)
  refine rlOn (e:=158) rfl rfl rfl rfl rfl (oL1 oneI hS 4 rfl rfl (ev rfl rfl) rfl rfl ?_)
  refine rlOn (e:=158) rfl rfl rfl rfl rfl (oL1 oneI hS 8 rfl rfl (ev rfl rfl) rfl rfl ?_)
  by_cases hst:((i + 1:Nat):Int) = Zs
  ·
   refine rlOn (e:=158) rfl rfl rfl rfl rfl (obin rfl rfl (ev rfl rfl) (ev rfl rfl) (bEq (eqT hst)) ?_)
   refine rl rfl rfl (opick rfl rfl (ev rfl rfl) (ev rfl rfl) ?_)
   refine rnil (tNo ?_)
   refine rT (ev rfl rfl) ?_
   refine rexit ?_
   refine blkX rfl ?_
   subst hT
   refine ⟨_,⟨rfl,by omega,by rw [hpre]; exact hst,⟨pV2,nV2,cV2,pM2,nM2,cM2,pF2,cF2,rfl⟩⟩,?_⟩
   rw [hpre]
   exact Sep.mid2 (FIX:=FIX) (Rf:=Rf) [.blk gI [.int .i64 ((i + 1:Nat):Int)] 3,.blk gP [.pointer (some ⟨gF,0,none⟩)] 30,.blk gF [.slice pV2 nV2 cV2,.slice pM2 nM2 cM2,.slice pF2 ((L.take (i + 1)).length) cF2] 37,.lst 45 2 pF2 ((L.take (i + 1)).length) cF2 (rpE (rps (L.take (i + 1)))),.row pV2 nV2 cV2 (lim (cv (L.take (i + 1))).1),.row pM2 nM2 cM2 (lim (cv (L.take (i + 1))).2),.blk gR [.int .i64 (rd:Int)] 3,.blk g2 [.slice p n c] 22,.blk g3 [.int .i64 Zs] 3] (show Sep w0 (.blk gI [.int .i64 ((i + 1:Nat):Int)] 3 :: .blk gP [.pointer (some ⟨gF,0,none⟩)] 30 :: .blk gF [.slice pV2 nV2 cV2,.slice pM2 nM2 cM2,.slice pF2 ((L.take (i + 1)).length) cF2] 37 :: .lst 45 2 pF2 ((L.take (i + 1)).length) cF2 (rpE (rps (L.take (i + 1)))) :: .row pV2 nV2 cV2 (lim (cv (L.take (i + 1))).1) :: .row pM2 nM2 cM2 (lim (cv (L.take (i + 1))).2) :: .blk gR [.int .i64 (rd:Int)] 3 :: .blk g2 [.slice p n c] 22 :: .blk g3 [.int .i64 Zs] 3 :: (Rf ++ FIX)) w8 from Sep.pickT [.blk gF [.slice pV2 nV2 cV2,.slice pM2 nM2 cM2,.slice pF2 ((L.take (i + 1)).length) cF2] 37,.lst 45 2 pF2 ((L.take (i + 1)).length) cF2 (rpE (rps (L.take (i + 1)))),.row pV2 nV2 cV2 (lim (cv (L.take (i + 1))).1),.row pM2 nM2 cM2 (lim (cv (L.take (i + 1))).2),.blk gI [.int .i64 ((i + 1:Nat):Int)] 3,.blk gP [.pointer (some ⟨gF,0,none⟩)] 30,.blk gR [.int .i64 (rd:Int)] 3,.blk g2 [.slice p n c] 22,.blk g3 [.int .i64 Zs] 3] [.blk gI [.int .i64 ((i + 1:Nat):Int)] 3,.blk gP [.pointer (some ⟨gF,0,none⟩)] 30,.blk gF [.slice pV2 nV2 cV2,.slice pM2 nM2 cM2,.slice pF2 ((L.take (i + 1)).length) cF2] 37,.lst 45 2 pF2 ((L.take (i + 1)).length) cF2 (rpE (rps (L.take (i + 1)))),.row pV2 nV2 cV2 (lim (cv (L.take (i + 1))).1),.row pM2 nM2 cM2 (lim (cv (L.take (i + 1))).2),.blk gR [.int .i64 (rd:Int)] 3,.blk g2 [.slice p n c] 22,.blk g3 [.int .i64 Zs] 3] hS [4,5,0,1,2,3,6,7,8] (by decide) rfl)
  refine rlOn (e:=158) rfl rfl rfl rfl rfl (obin rfl rfl (ev rfl rfl) (ev rfl rfl) (bEq (eqF hst)) ?_)
  refine rl rfl rfl (opick rfl rfl (ev rfl rfl) (ev rfl rfl) ?_)
  refine rnil (tNo ?_)
  refine rF (ev rfl rfl) ?_
  refine rskip (blkN ?_)
  subst hT
  refine ⟨_,⟨pV2,nV2,cV2,pM2,nM2,cM2,pF2,cF2,rfl⟩,?_⟩
  rw [hpre]
  exact Sep.mid2 (FIX:=FIX) (Rf:=Rf) [.blk gI [.int .i64 ((i + 1:Nat):Int)] 3,.blk gP [.pointer (some ⟨gF,0,none⟩)] 30,.blk gF [.slice pV2 nV2 cV2,.slice pM2 nM2 cM2,.slice pF2 ((L.take (i + 1)).length) cF2] 37,.lst 45 2 pF2 ((L.take (i + 1)).length) cF2 (rpE (rps (L.take (i + 1)))),.row pV2 nV2 cV2 (lim (cv (L.take (i + 1))).1),.row pM2 nM2 cM2 (lim (cv (L.take (i + 1))).2),.blk gR [.int .i64 (rd:Int)] 3,.blk g2 [.slice p n c] 22,.blk g3 [.int .i64 Zs] 3] (show Sep w0 (.blk gI [.int .i64 ((i + 1:Nat):Int)] 3 :: .blk gP [.pointer (some ⟨gF,0,none⟩)] 30 :: .blk gF [.slice pV2 nV2 cV2,.slice pM2 nM2 cM2,.slice pF2 ((L.take (i + 1)).length) cF2] 37 :: .lst 45 2 pF2 ((L.take (i + 1)).length) cF2 (rpE (rps (L.take (i + 1)))) :: .row pV2 nV2 cV2 (lim (cv (L.take (i + 1))).1) :: .row pM2 nM2 cM2 (lim (cv (L.take (i + 1))).2) :: .blk gR [.int .i64 (rd:Int)] 3 :: .blk g2 [.slice p n c] 22 :: .blk g3 [.int .i64 Zs] 3 :: (Rf ++ FIX)) w8 from Sep.pickT [.blk gF [.slice pV2 nV2 cV2,.slice pM2 nM2 cM2,.slice pF2 ((L.take (i + 1)).length) cF2] 37,.lst 45 2 pF2 ((L.take (i + 1)).length) cF2 (rpE (rps (L.take (i + 1)))),.row pV2 nV2 cV2 (lim (cv (L.take (i + 1))).1),.row pM2 nM2 cM2 (lim (cv (L.take (i + 1))).2),.blk gI [.int .i64 ((i + 1:Nat):Int)] 3,.blk gP [.pointer (some ⟨gF,0,none⟩)] 30,.blk gR [.int .i64 (rd:Int)] 3,.blk g2 [.slice p n c] 22,.blk g3 [.int .i64 Zs] 3] [.blk gI [.int .i64 ((i + 1:Nat):Int)] 3,.blk gP [.pointer (some ⟨gF,0,none⟩)] 30,.blk gF [.slice pV2 nV2 cV2,.slice pM2 nM2 cM2,.slice pF2 ((L.take (i + 1)).length) cF2] 37,.lst 45 2 pF2 ((L.take (i + 1)).length) cF2 (rpE (rps (L.take (i + 1)))),.row pV2 nV2 cV2 (lim (cv (L.take (i + 1))).1),.row pM2 nM2 cM2 (lim (cv (L.take (i + 1))).2),.blk gR [.int .i64 (rd:Int)] 3,.blk g2 [.slice p n c] 22,.blk g3 [.int .i64 Zs] 3] hS [4,5,0,1,2,3,6,7,8] (by decide) rfl)
 refine rl rfl rfl (obin rfl rfl (ev rfl rfl) evc (bEq (eqF (by omega))) ?_)
 refine rl rfl rfl (omove rfl rfl (ev rfl rfl) ?_)
 refine rlOff (e:=158) (d:=159) (b':=false) rfl rfl rfl rfl rfl rfl ?_
 refine rlOff (e:=158) (d:=160) (b':=false) rfl rfl rfl rfl rfl rfl ?_
 refine rlOff (e:=158) (d:=161) (b':=false) rfl rfl rfl rfl rfl rfl ?_
 refine rl rfl rfl (opick rfl rfl (ev rfl rfl) evc ?_)
 refine rnil (tNo ?_)
 refine rF (ev rfl rfl) ?_
 refine rskip (blkN ?_)
 subst hT
 refine ⟨_,⟨pV2,nV2,cV2,pM2,nM2,cM2,pF2,cF2,rfl⟩,?_⟩
 rw [hpre]
 exact Sep.mid2 (FIX:=FIX) (Rf:=Rf) [.blk gI [.int .i64 ((i + 1:Nat):Int)] 3,.blk gP [.pointer (some ⟨gF,0,none⟩)] 30,.blk gF [.slice pV2 nV2 cV2,.slice pM2 nM2 cM2,.slice pF2 ((L.take (i + 1)).length) cF2] 37,.lst 45 2 pF2 ((L.take (i + 1)).length) cF2 (rpE (rps (L.take (i + 1)))),.row pV2 nV2 cV2 (lim (cv (L.take (i + 1))).1),.row pM2 nM2 cM2 (lim (cv (L.take (i + 1))).2),.blk gR [.int .i64 (rd:Int)] 3,.blk g2 [.slice p n c] 22,.blk g3 [.int .i64 Zs] 3] (show Sep w0 (.blk gI [.int .i64 ((i + 1:Nat):Int)] 3 :: .blk gP [.pointer (some ⟨gF,0,none⟩)] 30 :: .blk gF [.slice pV2 nV2 cV2,.slice pM2 nM2 cM2,.slice pF2 ((L.take (i + 1)).length) cF2] 37 :: .lst 45 2 pF2 ((L.take (i + 1)).length) cF2 (rpE (rps (L.take (i + 1)))) :: .row pV2 nV2 cV2 (lim (cv (L.take (i + 1))).1) :: .row pM2 nM2 cM2 (lim (cv (L.take (i + 1))).2) :: .blk gR [.int .i64 (rd:Int)] 3 :: .blk g2 [.slice p n c] 22 :: .blk g3 [.int .i64 Zs] 3 :: (Rf ++ FIX)) w8 from Sep.pickT [.blk gF [.slice pV2 nV2 cV2,.slice pM2 nM2 cM2,.slice pF2 ((L.take (i + 1)).length) cF2] 37,.lst 45 2 pF2 ((L.take (i + 1)).length) cF2 (rpE (rps (L.take (i + 1)))),.row pV2 nV2 cV2 (lim (cv (L.take (i + 1))).1),.row pM2 nM2 cM2 (lim (cv (L.take (i + 1))).2),.blk gI [.int .i64 ((i + 1:Nat):Int)] 3,.blk gP [.pointer (some ⟨gF,0,none⟩)] 30,.blk gR [.int .i64 (rd:Int)] 3,.blk g2 [.slice p n c] 22,.blk g3 [.int .i64 Zs] 3] [.blk gI [.int .i64 ((i + 1:Nat):Int)] 3,.blk gP [.pointer (some ⟨gF,0,none⟩)] 30,.blk gF [.slice pV2 nV2 cV2,.slice pM2 nM2 cM2,.slice pF2 ((L.take (i + 1)).length) cF2] 37,.lst 45 2 pF2 ((L.take (i + 1)).length) cF2 (rpE (rps (L.take (i + 1)))),.row pV2 nV2 cV2 (lim (cv (L.take (i + 1))).1),.row pM2 nM2 cM2 (lim (cv (L.take (i + 1))).2),.blk gR [.int .i64 (rd:Int)] 3,.blk g2 [.slice p n c] 22,.blk g3 [.int .i64 Zs] 3] hS [4,5,0,1,2,3,6,7,8] (by decide) rfl)
theorem crtof_rest {k0_ k1_ k2_ k3_ k4_ k5_ cB:Code} (hc:(Tryz.f3).body = some (.seq k5_ (.seq k4_ (.seq k3_ (.seq k2_ (.seq k1_ (.seq k0_ cB))))))) {k:Nat} {L:List (Nat × Nat)} {f:Nat → Value} {g2 g3 g4 n c:Nat} {p:Option Addr} {Zs:Int} {w0 w:World} (ht:Tb w0) (hL:RS w0 p n L) (h32:∀ x ∈ L,x.1 < 4294967296 ∧ x.2 < 4294967296) (hlen:L.length ≤ 1048576) (hk:Far L k) (hpc:p = none → c = 0) (hf:AllAt f [(2,.pointer (some ⟨g2,0,none⟩)),(3,.pointer (some ⟨g3,0,none⟩)),(4,.pointer (some ⟨g4,0,none⟩))]) (hS:Sep w0 [.blk g2 [.slice p n c] 22,.blk g3 [.int .i64 Zs] 3,.blk g4 [.bool false] 4] w) :
  CW Tryz.prog cB (postM Tryz.prog Tryz.f3 (Ret (Is (.bool true)) w0)) (act 193 f) w:=by
 obtain rfl:=(Code.seq.inj (Code.seq.inj (Code.seq.inj (Code.seq.inj (Code.seq.inj (Code.seq.inj (Option.some.inj hc)).2).2).2).2).2).2
 clear hc
 rw [aSs hf]
 have hkl:=hk.le
 have hn1:=hL.1
 refine wsr (wl rfl (oL1 ⟨Tryz.isAgg22,Tryz.sizeOf22⟩ hS 0 rfl rfl (ev rfl rfl) rfl rfl ?_))
 refine wcl Tryz.call10 (wcsteps (hL.at hS) hpc hlen) (ar1 (ev rfl rfl)) hS ?_
 clear hS; rintro _ _ w1 ⟨gc,pS,cS,rfl,rfl⟩ hS
 refine wav rfl rfl ?_
 refine wn1 (wSq (wsr (wmv rfl rfl ?_)))
 refine wbc (z:=.bool false) rfl rfl (bin_eql_nilF Tryz.runUnderlying40) ?_
 refine wn1 ?_
 refine wF (ev rfl rfl) ?_
 refine wSk (tNo (wSq (wsr (wl rfl (oAl [.int .i64 0] hS rfl rfl Tryz.zeroValue3 rfl ?_)))))
 clear hS; intro gR w2 hS
 refine wl rfl (oSt _ _ Tryz.sizeOf3 hS 0 rfl rfl (ev rfl rfl) (evc (v:=.int .i64 0)) rfl rfl rfl rfl rfl rfl ?_)
 clear hS; intro w3 hS
 refine wn1 (wBk ?_)
 replace hS:=hS.dpk0
 refine marks0 ?_
 refine wLp (σ := Nat) (fun rd a9 w' => ∃ (fb:Nat → Value) (gR:Nat) (Ds:List Nat),a9 = marks Ds (act 193 (sets fb [(2,.pointer (some ⟨g2,0,none⟩)),(3,.pointer (some ⟨g3,0,none⟩)),(4,.pointer (some ⟨g4,0,none⟩)),(14,.func (.func 24) #[] #[.pointer (some ⟨gc,0,none⟩)]),(15,.pointer (some ⟨gR,0,none⟩))])) ∧ Sep w0 [Dpk Ds,.blk gR [.int .i64 (rd:Int)] 3,.blk gc [.slice pS L.length cS] 22,.lst 45 2 pS L.length cS (rpE L),.blk g2 [.slice p n c] 22,.blk g3 [.int .i64 Zs] 3,.blk g4 [.bool false] 4] w' ∧ (rd ≤ 2) ∧ (Ds.length = rd)) (fun rd => 2 - rd) (0) ⟨_,gR,[],kact_sets ⟨rfl,rfl,rfl,rfl,rfl,trivial⟩,hS,by omega,rfl⟩ ?_
 clear hS; rintro rd _ w4 ⟨fb,gR,Ds,rfl,hS,hrd,hDs⟩
 refine wSq (wSq ?_)
 by_cases hr2:rd < 2
 ·
  refine kreg ?_
  refine kl rfl (oL1 oneI hS 1 rfl rfl (ev rfl rfl) rfl rfl ?_)
  refine kl rfl (obin rfl rfl (ev rfl rfl) evc (bLs (decide_eq_true (by omega))) ?_)
  refine knil ?_
  refine tNo ?_
  refine kwT (ev rfl rfl) ?_
  refine wSk (tNo (wSq (wBk (wSq ?_))))
  refine kreg ?_
  refine kl rfl (oCl rfl rfl Tryz.call11 rfl (wknew) (args0 ) ?_)
  rintro _ w5 ⟨_,_,rfl,⟨gF,pM0,nM0,cM0,rfl,rfl⟩,hN⟩
  refine ⟨_,rfl,?_⟩
  replace hS:=hS.news hN; clear hN
  refine kl rfl (oAl [.pointer none] hS rfl rfl Tryz.zeroValue30 rfl ?_)
  clear hS; intro gP w6 hS
  refine kl rfl (oSt _ _ Tryz.sizeOf30 hS 0 rfl rfl (ev rfl rfl) (ev rfl rfl) rfl rfl rfl rfl rfl rfl ?_)
  clear hS; intro w7 hS
  refine knil ?_
  refine tNo (wSq ?_)
  replace hS:=hS.nilLst 45 2
  replace hS:=hS.nilRow0
  refine kreg ?_
  refine kl rfl (oAl [.int .i64 0] hS rfl rfl Tryz.zeroValue3 rfl ?_)
  clear hS; intro gI w8 hS
  refine kl rfl (oSt _ _ Tryz.sizeOf3 hS 0 rfl rfl (ev rfl rfl) (evc (v:=.int .i64 0)) rfl rfl rfl rfl rfl rfl ?_)
  clear hS; intro w9 hS
  refine knil ?_
  refine tNo (wSq (wSq ?_))
  refine kreg ?_
  refine kl rfl (omove rfl rfl (ev rfl rfl) ?_)
  refine knil ?_
  refine tNo (wBk ?_)
  obtain hS:=(show Sep w0 [.blk gc [.slice pS L.length cS] 22,.lst 45 2 pS L.length cS (rpE L),.blk gI [.int .i64 0] 3,.blk gP [.pointer (some ⟨gF,0,none⟩)] 30,.blk gF [.slice none 0 0,.slice pM0 nM0 cM0,.slice none 0 0] 37,.lst 45 2 none 0 0 ([]),.row none 0 0 (lim (cv []).1),.row pM0 nM0 cM0 (lim (cv []).2),.blk gR [.int .i64 (((rd:Nat):Int))] 3,.blk g2 [.slice p n c] 22,.blk g3 [.int .i64 Zs] 3,.blk g4 [.bool false] 4,Dpk Ds] w9 from hS.pick [8,9,0,3,4,2,1,5,7,10,11,12,6] (by decide) rfl)
  obtain hS:=hS.sub (List.take_sublist 13 _)
  refine wrangeJ (T:=TSt L) (xs:=List.range k) (R:=[.blk gc [.slice pS L.length cS] 22,.lst 45 2 pS L.length cS (rpE L)]) (ev rfl rfl) Tryz.call24 (steps_iter ht h32 hlen hk) hS (OI L gI gP gF gR g2 g3 rd n c p Zs [.blk g4 [.bool false] 4,Dpk Ds]) (OX L gI gP gF gR g2 g3 rd n c p Zs [.blk g4 [.bool false] 4,Dpk Ds]) (OJ L k gI gP gF gR g2 g3 rd n c p Zs [.blk g4 [.bool false] 4,Dpk Ds]) ?_ (OA L gI gP gF gR g2 g3 g4 rd n c p Zs [.blk g4 [.bool false] 4,Dpk Ds]) ?_ ?_ ?_ ?_ ?_
  ·exact ⟨_,_,_,_,_,_,_,_,by rw [List.length_nil,List.take_zero]; rfl⟩
  ·rintro l m pre q u v r Rf Rc W hpx hI ⟨px,nx,cx,py,ny,cy,rfl,rfl,rfl⟩ hS
   refine rseq (rreg ?_)
   refine rl rfl rfl (oassign rfl rfl (ev rfl rfl) ?_)
   refine rnil (tNo (rreg ?_))
   refine rl rfl rfl (oassign rfl rfl (ev rfl rfl) ?_)
   refine rnil (tNo ?_)
   exact ⟨_,_,rfl,⟨px,nx,cx,py,ny,cy,Rc,rfl,⟨rfl,rfl,rfl,rfl,rfl,rfl,rfl,rfl,trivial⟩,hI⟩,Sep.mid2 [_,_] hS⟩
  ·rintro l m pre q f9 Rf R9 W hpx ⟨px,nx,cx,py,ny,cy,_,rfl,hfa,pV,nV,cV,pM,nM,cM,pF,cF,rfl⟩ hS
   obtain ⟨rfl,hlk⟩:=range_at hpx
   exact crtof_round (FIX:=[.blk g4 [.bool false] 4,Dpk Ds]) rfl ht hL h32 hlen hk hfa hlk (by rw [List.length_append]; rfl) (by omega) rfl (Sep.mid2 (Rf:=[_,_,_,_,_,_,_,_,_,_,_]) Rf hS)
  ·rintro Rc ⟨pV,nV,cV,pM,nM,cM,pF,cF,rfl⟩
   exact ⟨k,Nat.le_refl _,.inl rfl,pV,nV,cV,pM,nM,cM,pF,cF,by rw [List.length_range]⟩
  ·rintro e pre Rc hp ⟨rfl,h1,h2,pV,nV,cV,pM,nM,cM,pF,cF,rfl⟩
   exact ⟨rfl,pre.length,pre_le hp,.inr ⟨h1,h2⟩,pV,nV,cV,pM,nM,cM,pF,cF,rfl⟩
  rintro D _ W ⟨i,hik,hJ,pV,nV,cV,pM,nM,cM,pF,cF,rfl⟩ hS
  obtain hS:=(show Sep w0 [.obj D (.deferred (some [])),.blk gc [.slice pS L.length cS] 22,.lst 45 2 pS L.length cS (rpE L),.blk gI [.int .i64 (((i:Nat):Int))] 3,.blk gP [.pointer (some ⟨gF,0,none⟩)] 30,.blk gF [.slice pV nV cV,.slice pM nM cM,.slice pF ((L.take i).length) cF] 37,.lst 45 2 pF ((L.take i).length) cF (rpE (rps (L.take i))),.row pV nV cV (lim (cv (L.take i)).1),.row pM nM cM (lim (cv (L.take i)).2),.blk gR [.int .i64 (((rd:Nat):Int))] 3,.blk g2 [.slice p n c] 22,.blk g3 [.int .i64 Zs] 3,.blk g4 [.bool false] 4,Dpk Ds] W from hS)
  obtain hS:=(show Sep w0 [.obj D (.deferred (some [])),Dpk Ds,.blk gc [.slice pS L.length cS] 22,.lst 45 2 pS L.length cS (rpE L),.blk gI [.int .i64 (((i:Nat):Int))] 3,.blk gP [.pointer (some ⟨gF,0,none⟩)] 30,.blk gF [.slice pV nV cV,.slice pM nM cM,.slice pF ((L.take i).length) cF] 37,.lst 45 2 pF ((L.take i).length) cF (rpE (rps (L.take i))),.row pV nV cV (lim (cv (L.take i)).1),.row pM nM cM (lim (cv (L.take i)).2),.blk gR [.int .i64 (((rd:Nat):Int))] 3,.blk g2 [.slice p n c] 22,.blk g3 [.int .i64 Zs] 3,.blk g4 [.bool false] 4] W from hS.pick [0,13,1,2,3,4,5,6,7,8,9,10,11,12] (by decide) rfl)
  replace hS:=hS.dpkC
  have hok:=hk.at hik
  have hwV:=hok.wV
  have hwM:=hok.wM
  refine tNo (wSq ?_)
  by_cases hr1:rd = 1
  ·
   have hki:i = k:=hJ.resolve_right (fun h => by omega)
   by_cases hlt:i < n
   ·
    obtain ⟨x,hx⟩:∃ x,L[i]? = some x:=⟨_,List.getElem?_eq_getElem (by omega)⟩
    obtain ⟨b,off,hpx,hcx⟩:=hL.2.2 _ x hx
    have hx32:=h32 x (List.mem_of_getElem? hx)
    obtain ⟨e2,he2⟩:∃ e2:Nat,Hid (eno (mods (L.take i)) x.2 = e2):=⟨_,rfl⟩
    have hen:e2 ≠ 0:=by rw [← he2.out]; have h9:=hk.no x (hki ▸ hx); rwa [← hki] at h9
    refine cw_of_cr (m:=0) (istage (Ds:=(D :: Ds)) 25 [163,164,165,166,167,168,169,170,171,172,173,174,175,176,177,178,179,180,181,182,183,184,185,186,187] [[],[0],[1,0],[2,0,1],[2,0,1],[2,3,4,0,1],[2,5,0,1,3,4],[6,0,1,2,3,4,5],[7,0,1,2,3,4,5,6],[7,0,1,2,3,4,5,6],[7,9,0,1,2,3,4,5,6],[7,8,10,0,1,2,3,4,5,6,9],[7,11,0,1,2,3,4,5,6,8,9,10],[12,0,1,2,3,4,5,6,7,8,9,10,11],[13,0,1,2,3,4,5,6,7,8,9,10,11,12],[13,0,1,2,3,4,5,6,7,8,9,10,11,12],[13,0,1,2,3,4,5,6,7,8,9,10,11,12],[13,15,16,0,1,2,3,4,5,6,7,8,9,10,11,12],[13,17,0,1,2,3,4,5,6,7,8,9,10,11,12,15,16],[13,18,0,1,2,3,4,5,6,7,8,9,10,11,12,15,16,17],[13,0,1,2,3,4,5,6,7,8,9,10,11,12],[13,0,1,2,3,4,5,6,7,8,9,10,11,12],[13,20,21,0,1,2,3,4,5,6,7,8,9,10,11,12],[13,22,0,1,2,3,4,5,6,7,8,9,10,11,12,20,21],[13,23,0,1,2,3,4,5,6,7,8,9,10,11,12,20,21,22]] [[],[],[],[],[],[],[],[],[],[],[],[],[],[],[],[],[],[],[],[],[],[],[],[],[]] [] [] (fun i9 => ([fun _ => Is (.int .i64 (rd:Int)),fun _ => Is (.bool true),fun _ => Is (.bool true),fun _ => Is undef,fun _ => Is undef,fun _ => Is undef,fun _ => Is (.bool true),fun _ => Is (.bool true),fun _ => Is (.int .i64 (i:Int)),fun _ => Is (.slice p n c),fun _ => Is (.int .i64 (n:Int)),fun _ => Is (.bool true),fun _ => Is (.bool true),fun _ => Is (.bool true),fun _ => Is (.pointer (some ⟨gF,0,none⟩)),fun _ => Is (.slice p n c),fun _ => Is (.int .i64 (i:Int)),fun _ => Is (.pointer (some ⟨b,(off + i * 2),none⟩)),fun _ => Is (.pointer (some ⟨b,((off + i * 2) + 0),none⟩)),fun _ => Is (.int .u32 (x.1:Int)),fun _ => Is (.slice p n c),fun _ => Is (.int .i64 (i:Int)),fun _ => Is (.pointer (some ⟨b,(off + i * 2),none⟩)),fun _ => Is (.pointer (some ⟨b,((off + i * 2) + 1),none⟩)),fun _ => Is (.int .u32 (x.2:Int))]:List (List Value → Tell)).getD i9 (fun _ _ _ => False)) hNi rfl (by rfl) (by kernel_rfl) (by kernel_rfl) hS ?_ ?_)
    ·
     refine stH rfl (fun ho hS=>?_) ?_
     ·exact inNo rfl (oL1 oneI hS 9 rfl rfl (ev rfl (ho 15 rfl)) rfl rfl (nSm rfl isI))
     refine stT rfl (fun hT hS=>?_) ?_
     ·obtain ⟨hv0,hr0⟩:=hT 0 163 rfl rfl
      obtain hS:=hS.flat1 hr0
      exact inNo rfl (obin rfl rfl (ev rfl hv0) evc (bEq (eqT (by omega))) (nSm rfl isI))
     refine stT rfl (fun hT hS=>?_) ?_
     ·obtain ⟨hv1,hr1⟩:=hT 1 164 rfl rfl
      obtain hS:=hS.flat1 hr1
      exact inNo rfl (omove rfl rfl (ev rfl hv1) (nSm rfl isI))
     refine stT rfl (fun hT hS=>?_) ?_
     ·obtain ⟨hv2,hr2⟩:=hT 2 165 rfl rfl
      obtain hS:=hS.flat1 hr2
      exact .inr ⟨want_off (e:=165) (b':=true) rfl rfl rfl hv2 rfl,isI⟩
     refine stT rfl (fun hT hS=>?_) ?_
     ·obtain ⟨hv2,hr2⟩:=hT 2 165 rfl rfl
      obtain hS:=hS.flat1 hr2
      exact .inr ⟨want_off (e:=165) (b':=true) rfl rfl rfl hv2 rfl,isI⟩
     refine stT rfl (fun hT hS=>?_) ?_
     ·obtain ⟨hv2,hr2⟩:=hT 2 165 rfl rfl
      obtain ⟨hv3,hr3⟩:=hT 3 166 rfl rfl
      obtain ⟨hv4,hr4⟩:=hT 4 167 rfl rfl
      obtain hS:=hS.flat3 hr2 hr3 hr4
      exact .inr ⟨want_off (e:=165) (b':=true) rfl rfl rfl hv2 rfl,isI⟩
     refine stT rfl (fun hT hS=>?_) ?_
     ·obtain ⟨hv2,hr2⟩:=hT 2 165 rfl rfl
      obtain ⟨hv5,hr5⟩:=hT 5 168 rfl rfl
      obtain hS:=hS.flat2 hr2 hr5
      exact inNo rfl (opick rfl rfl (ev rfl hv2) evc (nSm rfl isI))
     refine stT rfl (fun hT hS=>?_) ?_
     ·obtain ⟨hv6,hr6⟩:=hT 6 169 rfl rfl
      obtain hS:=hS.flat1 hr6
      exact inNo rfl (omove rfl rfl (ev rfl hv6) (nSm rfl isI))
     refine stC rfl (fun _ _ _ _ _ ho hT hS _=>?_) ?_
     ·obtain ⟨hv7,hr7⟩:=hT 7 170 rfl rfl
      obtain hS:=hS.flat1 hr7
      exact .inl ⟨want_on (e:=170) rfl rfl rfl hv7,oL1 oneI hS 3 rfl rfl (ev rfl (ho 17 rfl)) rfl rfl ⟨_,_,rfl,isI,New.same _⟩⟩
     refine stC rfl (fun _ _ _ _ _ ho hT hS _=>?_) ?_
     ·obtain ⟨hv7,hr7⟩:=hT 7 170 rfl rfl
      obtain hS:=hS.flat1 hr7
      exact .inl ⟨want_on (e:=170) rfl rfl rfl hv7,oL1 ⟨Tryz.isAgg22,Tryz.sizeOf22⟩ hS 10 rfl rfl (ev rfl (ho 2 rfl)) rfl rfl ⟨_,_,rfl,isI,New.same _⟩⟩
     refine stT rfl (fun hT hS=>?_) ?_
     ·obtain ⟨hv7,hr7⟩:=hT 7 170 rfl rfl
      obtain ⟨hv9,hr9⟩:=hT 9 172 rfl rfl
      obtain hS:=hS.flat2 hr7 hr9
      exact .inl ⟨want_on (e:=170) rfl rfl rfl hv7,olen rfl rfl rfl Tryz.runUnderlying22 (p:=p) (k:=n) (m:=c) (ev rfl hv9) ⟨_,_,rfl,isI,New.same _⟩⟩
     refine stT rfl (fun hT hS=>?_) ?_
     ·obtain ⟨hv7,hr7⟩:=hT 7 170 rfl rfl
      obtain ⟨hv8,hr8⟩:=hT 8 171 rfl rfl
      obtain ⟨hv10,hr10⟩:=hT 10 173 rfl rfl
      obtain hS:=hS.flat3 hr7 hr8 hr10
      exact .inl ⟨want_on (e:=170) rfl rfl rfl hv7,obin rfl rfl (ev rfl hv8) (ev rfl hv10) (bLs (decide_eq_true (by omega))) ⟨_,_,rfl,isI,New.same _⟩⟩
     refine stT rfl (fun hT hS=>?_) ?_
     ·obtain ⟨hv7,hr7⟩:=hT 7 170 rfl rfl
      obtain ⟨hv11,hr11⟩:=hT 11 174 rfl rfl
      obtain hS:=hS.flat2 hr7 hr11
      exact inNo rfl (opick rfl rfl (ev rfl hv7) (ev rfl hv11) (nSm rfl isI))
     refine stT rfl (fun hT hS=>?_) ?_
     ·obtain ⟨hv12,hr12⟩:=hT 12 175 rfl rfl
      obtain hS:=hS.flat1 hr12
      exact inNo rfl (omove rfl rfl (ev rfl hv12) (nSm rfl isI))
     refine stC rfl (fun _ _ _ _ _ ho hT hS _=>?_) ?_
     ·obtain ⟨hv13,hr13⟩:=hT 13 176 rfl rfl
      obtain hS:=hS.flat1 hr13
      exact .inl ⟨want_on (e:=176) rfl rfl rfl hv13,oL1 ⟨Tryz.isAgg30,Tryz.sizeOf30⟩ hS 4 rfl rfl (ev rfl (ho 16 rfl)) rfl rfl ⟨_,_,rfl,isI,New.same _⟩⟩
     refine stC rfl (fun _ _ _ _ _ ho hT hS _=>?_) ?_
     ·obtain ⟨hv13,hr13⟩:=hT 13 176 rfl rfl
      obtain hS:=hS.flat1 hr13
      exact .inl ⟨want_on (e:=176) rfl rfl rfl hv13,oL1 ⟨Tryz.isAgg22,Tryz.sizeOf22⟩ hS 10 rfl rfl (ev rfl (ho 2 rfl)) rfl rfl ⟨_,_,rfl,isI,New.same _⟩⟩
     refine stC rfl (fun _ _ _ _ _ ho hT hS _=>?_) ?_
     ·obtain ⟨hv13,hr13⟩:=hT 13 176 rfl rfl
      obtain hS:=hS.flat1 hr13
      exact .inl ⟨want_on (e:=176) rfl rfl rfl hv13,oL1 oneI hS 3 rfl rfl (ev rfl (ho 17 rfl)) rfl rfl ⟨_,_,rfl,isI,New.same _⟩⟩
     refine stT rfl (fun hT hS=>?_) ?_
     ·obtain ⟨hv13,hr13⟩:=hT 13 176 rfl rfl
      obtain ⟨hv15,hr15⟩:=hT 15 178 rfl rfl
      obtain ⟨hv16,hr16⟩:=hT 16 179 rfl rfl
      obtain hS:=hS.flat3 hr13 hr15 hr16
      exact .inl ⟨want_on (e:=176) rfl rfl rfl hv13,oIx (p:=p) (g:=b) (off:=off) (m:=n) (k:=i) (j:=(off + i * 2)) rfl rfl Tryz.runUnderlying22 Tryz.sizeOf45 (ev rfl hv15) hpx (ev rfl hv16) hlt rfl ⟨_,_,rfl,isI,New.same _⟩⟩
     refine stT rfl (fun hT hS=>?_) ?_
     ·obtain ⟨hv13,hr13⟩:=hT 13 176 rfl rfl
      obtain ⟨hv17,hr17⟩:=hT 17 180 rfl rfl
      obtain hS:=hS.flat2 hr13 hr17
      exact .inl ⟨want_on (e:=176) rfl rfl rfl hv13,oFA (g:=b) (off:=(off + i * 2)) ((off + i * 2) + 0) rfl rfl (ev rfl hv17) Tryz.runUnderlying45 rfl Tryz.sizeOf38 rfl ⟨_,_,rfl,isI,New.same _⟩⟩
     refine stT rfl (fun hT hS=>?_) ?_
     ·obtain ⟨hv13,hr13⟩:=hT 13 176 rfl rfl
      obtain ⟨hv18,hr18⟩:=hT 18 181 rfl rfl
      obtain hS:=hS.flat2 hr13 hr18
      exact .inl ⟨want_on (e:=176) rfl rfl rfl hv13,oLc one32 rfl rfl (ev rfl hv18) (hS.cellAt ((cell_sub (us:=[.int .u32 (x.1:Int)]) hcx 0 rfl) 0 _ rfl)) ⟨_,_,rfl,isI,New.same _⟩⟩
     refine stC rfl (fun _ _ _ _ _ ho hT hS _=>?_) ?_
     ·obtain ⟨hv13,hr13⟩:=hT 13 176 rfl rfl
      obtain hS:=hS.flat1 hr13
      exact .inl ⟨want_on (e:=176) rfl rfl rfl hv13,oL1 ⟨Tryz.isAgg22,Tryz.sizeOf22⟩ hS 10 rfl rfl (ev rfl (ho 2 rfl)) rfl rfl ⟨_,_,rfl,isI,New.same _⟩⟩
     refine stC rfl (fun _ _ _ _ _ ho hT hS _=>?_) ?_
     ·obtain ⟨hv13,hr13⟩:=hT 13 176 rfl rfl
      obtain hS:=hS.flat1 hr13
      exact .inl ⟨want_on (e:=176) rfl rfl rfl hv13,oL1 oneI hS 3 rfl rfl (ev rfl (ho 17 rfl)) rfl rfl ⟨_,_,rfl,isI,New.same _⟩⟩
     refine stT rfl (fun hT hS=>?_) ?_
     ·obtain ⟨hv13,hr13⟩:=hT 13 176 rfl rfl
      obtain ⟨hv20,hr20⟩:=hT 20 183 rfl rfl
      obtain ⟨hv21,hr21⟩:=hT 21 184 rfl rfl
      obtain hS:=hS.flat3 hr13 hr20 hr21
      exact .inl ⟨want_on (e:=176) rfl rfl rfl hv13,oIx (p:=p) (g:=b) (off:=off) (m:=n) (k:=i) (j:=(off + i * 2)) rfl rfl Tryz.runUnderlying22 Tryz.sizeOf45 (ev rfl hv20) hpx (ev rfl hv21) hlt rfl ⟨_,_,rfl,isI,New.same _⟩⟩
     refine stT rfl (fun hT hS=>?_) ?_
     ·obtain ⟨hv13,hr13⟩:=hT 13 176 rfl rfl
      obtain ⟨hv22,hr22⟩:=hT 22 185 rfl rfl
      obtain hS:=hS.flat2 hr13 hr22
      exact .inl ⟨want_on (e:=176) rfl rfl rfl hv13,oFA (g:=b) (off:=(off + i * 2)) ((off + i * 2) + 1) rfl rfl (ev rfl hv22) Tryz.runUnderlying45 rfl Tryz.sizeOf38 rfl ⟨_,_,rfl,isI,New.same _⟩⟩
     refine stT rfl (fun hT hS=>?_) ?_
     ·obtain ⟨hv13,hr13⟩:=hT 13 176 rfl rfl
      obtain ⟨hv23,hr23⟩:=hT 23 186 rfl rfl
      obtain hS:=hS.flat2 hr13 hr23
      exact .inl ⟨want_on (e:=176) rfl rfl rfl hv13,oLc one32 rfl rfl (ev rfl hv23) (hS.cellAt ((cell_sub (us:=[.int .u32 (x.2:Int)]) hcx 1 rfl) 0 _ rfl)) ⟨_,_,rfl,isI,New.same _⟩⟩
     exact sNi
    intro vs ρ w10 f' hf hT hS
    obtain ⟨hv0,hr0⟩:=hT 0 (by decide)
    obtain ⟨hv1,hr1⟩:=hT 1 (by decide)
    obtain ⟨hv2,hr2⟩:=hT 2 (by decide)
    obtain ⟨hv3,hr3⟩:=hT 3 (by decide)
    obtain ⟨hv4,hr4⟩:=hT 4 (by decide)
    obtain ⟨hv5,hr5⟩:=hT 5 (by decide)
    obtain ⟨hv6,hr6⟩:=hT 6 (by decide)
    obtain ⟨hv7,hr7⟩:=hT 7 (by decide)
    obtain ⟨hv8,hr8⟩:=hT 8 (by decide)
    obtain ⟨hv9,hr9⟩:=hT 9 (by decide)
    obtain ⟨hv10,hr10⟩:=hT 10 (by decide)
    obtain ⟨hv11,hr11⟩:=hT 11 (by decide)
    obtain ⟨hv12,hr12⟩:=hT 12 (by decide)
    obtain ⟨hv13,hr13⟩:=hT 13 (by decide)
    obtain ⟨hv14,hr14⟩:=hT 14 (by decide)
    obtain ⟨hv15,hr15⟩:=hT 15 (by decide)
    obtain ⟨hv16,hr16⟩:=hT 16 (by decide)
    obtain ⟨hv17,hr17⟩:=hT 17 (by decide)
    obtain ⟨hv18,hr18⟩:=hT 18 (by decide)
    obtain ⟨hv19,hr19⟩:=hT 19 (by decide)
    obtain ⟨hv20,hr20⟩:=hT 20 (by decide)
    obtain ⟨hv21,hr21⟩:=hT 21 (by decide)
    obtain ⟨hv22,hr22⟩:=hT 22 (by decide)
    obtain ⟨hv23,hr23⟩:=hT 23 (by decide)
    obtain ⟨hv24,hr24⟩:=hT 24 (by decide)
    simp only [pool,if_true,hr0,hr1,hr2,hr3,hr4,hr5,hr6,hr7,hr8,hr9,hr10,hr11,hr12,hr13,hr14,hr15,hr16,hr17,hr18,hr19,hr20,hr21,hr22,hr23,hr24,List.nil_append,List.cons_append,List.append_nil] at hS
    simp only [layf,hv0,hv1,hv2,hv3,hv4,hv5,hv6,hv7,hv8,hv9,hv10,hv11,hv12,hv13,hv14,hv15,hv16,hv17,hv18,hv19,hv20,hv21,hv22,hv23,hv24] at hf
    subst hf; clear hT hv0 hv1 hv2 hv3 hv4 hv5 hv6 hv7 hv8 hv9 hv10 hv11 hv12 hv13 hv14 hv15 hv16 hv17 hv18 hv19 hv20 hv21 hv22 hv23 hv24 hr0 hr1 hr2 hr3 hr4 hr5 hr6 hr7 hr8 hr9 hr10 hr11 hr12 hr13 hr14 hr15 hr16 hr17 hr18 hr19 hr20 hr21 hr22 hr23 hr24
    obtain hS:=(show Sep w0 [.blk gF [.slice pV nV cV,.slice pM nM cM,.slice pF ((L.take i).length) cF] 37,.lst 45 2 pF ((L.take i).length) cF (rpE (rps (L.take i))),.row pV nV cV (lim (cv (L.take i)).1),.row pM nM cM (lim (cv (L.take i)).2),Dpk (D :: Ds),.blk gc [.slice pS L.length cS] 22,.lst 45 2 pS L.length cS (rpE L),.blk gI [.int .i64 (((i:Nat):Int))] 3,.blk gP [.pointer (some ⟨gF,0,none⟩)] 30,.blk gR [.int .i64 (((rd:Nat):Int))] 3,.blk g2 [.slice p n c] 22,.blk g3 [.int .i64 Zs] 3,.blk g4 [.bool false] 4] w10 from hS.pick [5,6,7,8,0,1,2,3,4,9,10,11,12] (by decide) rfl)
    refine ilateOn 25 (e:=176) rfl (by kernel_rfl) rfl rfl rfl rfl rfl (oCl rfl rfl Tryz.call12 rfl (wkaddA (K2:=L.take i) hok (by rw [List.length_take]; omega) hx32.1 hx32.2 (show Hid (_ = _) from nxt_no (by rw [he2.out]; exact hen)) he2 hS) (args3 (ev rfl rfl) (ev rfl rfl) (ev rfl rfl)) ?_)
    rintro _ w11 ⟨_,_,rfl,⟨pV2,nV2,cV2,pM2,nM2,cM2,pF2,cF2,rfl,rfl⟩,hN⟩
    refine ⟨_,rfl,?_⟩
    clear hS; have hS:=hN; clear hN
    refine ⟨hNi,?_⟩
    refine ilateOn 26 (e:=176) rfl (by kernel_rfl) rfl rfl rfl rfl rfl (obin rfl rfl (ev rfl rfl) evc (bEq (eqF (by omega))) ?_)
    refine ⟨hNi,?_⟩
    refine ilate 27 rfl (by kernel_rfl) rfl (opick rfl rfl (ev rfl rfl) (ev rfl rfl) ?_)
    refine ⟨hNi,?_⟩
    refine idone rfl ?_
    refine tNo ?_
    refine kwF (ev rfl rfl) ?_
    refine wSk (blkN (tNo (wSq (wSq ?_))))
    refine kreg ?_
    refine kl rfl (oL1 oneI hS 9 rfl rfl (ev rfl rfl) rfl rfl ?_)
    refine knil ?_
    refine tNo ?_
    refine kreg ?_
    refine kl rfl (oAl [.int .i64 0] hS rfl rfl Tryz.zeroValue3 rfl ?_)
    clear hS; intro gR2 w12 hS
    refine kl rfl (oSt _ _ Tryz.sizeOf3 hS 0 rfl rfl (ev rfl rfl) (ev rfl rfl) rfl rfl rfl rfl rfl rfl ?_)
    clear hS; intro w13 hS
    refine knil ?_
    refine tNo ?_
    refine kreg ?_
    refine kl rfl (oL1 oneI hS 0 rfl rfl (ev rfl rfl) rfl rfl ?_)
    refine kl rfl (obin (z:=.int .i64 ((rd + 1:Nat):Int)) rfl rfl (ev rfl rfl) evc (bAd (wI6 (by omega) (by omega))) ?_)
    refine kl rfl (oSt _ _ Tryz.sizeOf3 hS 0 rfl rfl (ev rfl rfl) (ev rfl rfl) rfl rfl rfl rfl rfl rfl ?_)
    clear hS; intro w14 hS
    refine knil ?_
    refine tNo ?_
    exact ⟨(rd + 1),⟨_,_,_,kact_sets ⟨rfl,rfl,rfl,rfl,rfl,trivial⟩,hS.pick [5,0,6,7,11,12,13] (by decide) rfl,by omega,by rw [List.length_cons,hDs]⟩,by omega⟩
   refine cw_of_cr (m:=0) (istage (Ds:=(D :: Ds)) 28 [163,164,165,166,167,168,169,170,171,172,173,174,175,176,177,178,179,180,181,182,183,184,185,186,187,188,189,190] [[],[0],[1,0],[2,0,1],[2,0,1],[2,3,4,0,1],[2,5,0,1,3,4],[6,0,1,2,3,4,5],[7,0,1,2,3,4,5,6],[7,0,1,2,3,4,5,6],[7,9,0,1,2,3,4,5,6],[7,8,10,0,1,2,3,4,5,6,9],[7,11,0,1,2,3,4,5,6,8,9,10],[12,0,1,2,3,4,5,6,7,8,9,10,11],[13,0,1,2,3,4,5,6,7,8,9,10,11,12],[13,0,1,2,3,4,5,6,7,8,9,10,11,12],[13,0,1,2,3,4,5,6,7,8,9,10,11,12],[13,15,16,0,1,2,3,4,5,6,7,8,9,10,11,12],[13,17,0,1,2,3,4,5,6,7,8,9,10,11,12,15,16],[13,18,0,1,2,3,4,5,6,7,8,9,10,11,12,15,16,17],[13,0,1,2,3,4,5,6,7,8,9,10,11,12],[13,0,1,2,3,4,5,6,7,8,9,10,11,12],[13,20,21,0,1,2,3,4,5,6,7,8,9,10,11,12],[13,22,0,1,2,3,4,5,6,7,8,9,10,11,12,20,21],[13,23,0,1,2,3,4,5,6,7,8,9,10,11,12,20,21,22],[13,14,19,24,0,1,2,3,4,5,6,7,8,9,10,11,12,15,16,17,18,20,21,22,23],[13,25,0,1,2,3,4,5,6,7,8,9,10,11,12,14,15,16,17,18,19,20,21,22,23,24],[13,26,0,1,2,3,4,5,6,7,8,9,10,11,12,14,15,16,17,18,19,20,21,22,23,24,25]] [[],[],[],[],[],[],[],[],[],[],[],[],[],[],[],[],[],[],[],[],[],[],[],[],[],[],[],[]] [] [] (fun i9 => ([fun _ => Is (.int .i64 (rd:Int)),fun _ => Is (.bool true),fun _ => Is (.bool true),fun _ => Is undef,fun _ => Is undef,fun _ => Is undef,fun _ => Is (.bool true),fun _ => Is (.bool true),fun _ => Is (.int .i64 (i:Int)),fun _ => Is (.slice p n c),fun _ => Is (.int .i64 (n:Int)),fun _ => Is (.bool false),fun _ => Is (.bool false),fun _ => Is (.bool false),fun _ => Is undef,fun _ => Is undef,fun _ => Is undef,fun _ => Is undef,fun _ => Is undef,fun _ => Is undef,fun _ => Is undef,fun _ => Is undef,fun _ => Is undef,fun _ => Is undef,fun _ => Is undef,fun _ => Is undef,fun _ => Is undef,fun _ => Is (.bool false)]:List (List Value → Tell)).getD i9 (fun _ _ _ => False)) hNi rfl (by rfl) (by kernel_rfl) (by kernel_rfl) hS ?_ ?_)
   ·
    refine stH rfl (fun ho hS=>?_) ?_
    ·exact inNo rfl (oL1 oneI hS 9 rfl rfl (ev rfl (ho 15 rfl)) rfl rfl (nSm rfl isI))
    refine stT rfl (fun hT hS=>?_) ?_
    ·obtain ⟨hv0,hr0⟩:=hT 0 163 rfl rfl
     obtain hS:=hS.flat1 hr0
     exact inNo rfl (obin rfl rfl (ev rfl hv0) evc (bEq (eqT (by omega))) (nSm rfl isI))
    refine stT rfl (fun hT hS=>?_) ?_
    ·obtain ⟨hv1,hr1⟩:=hT 1 164 rfl rfl
     obtain hS:=hS.flat1 hr1
     exact inNo rfl (omove rfl rfl (ev rfl hv1) (nSm rfl isI))
    refine stT rfl (fun hT hS=>?_) ?_
    ·obtain ⟨hv2,hr2⟩:=hT 2 165 rfl rfl
     obtain hS:=hS.flat1 hr2
     exact .inr ⟨want_off (e:=165) (b':=true) rfl rfl rfl hv2 rfl,isI⟩
    refine stT rfl (fun hT hS=>?_) ?_
    ·obtain ⟨hv2,hr2⟩:=hT 2 165 rfl rfl
     obtain hS:=hS.flat1 hr2
     exact .inr ⟨want_off (e:=165) (b':=true) rfl rfl rfl hv2 rfl,isI⟩
    refine stT rfl (fun hT hS=>?_) ?_
    ·obtain ⟨hv2,hr2⟩:=hT 2 165 rfl rfl
     obtain ⟨hv3,hr3⟩:=hT 3 166 rfl rfl
     obtain ⟨hv4,hr4⟩:=hT 4 167 rfl rfl
     obtain hS:=hS.flat3 hr2 hr3 hr4
     exact .inr ⟨want_off (e:=165) (b':=true) rfl rfl rfl hv2 rfl,isI⟩
    refine stT rfl (fun hT hS=>?_) ?_
    ·obtain ⟨hv2,hr2⟩:=hT 2 165 rfl rfl
     obtain ⟨hv5,hr5⟩:=hT 5 168 rfl rfl
     obtain hS:=hS.flat2 hr2 hr5
     exact inNo rfl (opick rfl rfl (ev rfl hv2) evc (nSm rfl isI))
    refine stT rfl (fun hT hS=>?_) ?_
    ·obtain ⟨hv6,hr6⟩:=hT 6 169 rfl rfl
     obtain hS:=hS.flat1 hr6
     exact inNo rfl (omove rfl rfl (ev rfl hv6) (nSm rfl isI))
    refine stC rfl (fun _ _ _ _ _ ho hT hS _=>?_) ?_
    ·obtain ⟨hv7,hr7⟩:=hT 7 170 rfl rfl
     obtain hS:=hS.flat1 hr7
     exact .inl ⟨want_on (e:=170) rfl rfl rfl hv7,oL1 oneI hS 3 rfl rfl (ev rfl (ho 17 rfl)) rfl rfl ⟨_,_,rfl,isI,New.same _⟩⟩
    refine stC rfl (fun _ _ _ _ _ ho hT hS _=>?_) ?_
    ·obtain ⟨hv7,hr7⟩:=hT 7 170 rfl rfl
     obtain hS:=hS.flat1 hr7
     exact .inl ⟨want_on (e:=170) rfl rfl rfl hv7,oL1 ⟨Tryz.isAgg22,Tryz.sizeOf22⟩ hS 10 rfl rfl (ev rfl (ho 2 rfl)) rfl rfl ⟨_,_,rfl,isI,New.same _⟩⟩
    refine stT rfl (fun hT hS=>?_) ?_
    ·obtain ⟨hv7,hr7⟩:=hT 7 170 rfl rfl
     obtain ⟨hv9,hr9⟩:=hT 9 172 rfl rfl
     obtain hS:=hS.flat2 hr7 hr9
     exact .inl ⟨want_on (e:=170) rfl rfl rfl hv7,olen rfl rfl rfl Tryz.runUnderlying22 (p:=p) (k:=n) (m:=c) (ev rfl hv9) ⟨_,_,rfl,isI,New.same _⟩⟩
    refine stT rfl (fun hT hS=>?_) ?_
    ·obtain ⟨hv7,hr7⟩:=hT 7 170 rfl rfl
     obtain ⟨hv8,hr8⟩:=hT 8 171 rfl rfl
     obtain ⟨hv10,hr10⟩:=hT 10 173 rfl rfl
     obtain hS:=hS.flat3 hr7 hr8 hr10
     exact .inl ⟨want_on (e:=170) rfl rfl rfl hv7,obin rfl rfl (ev rfl hv8) (ev rfl hv10) (bLs (decide_eq_false (by omega))) ⟨_,_,rfl,isI,New.same _⟩⟩
    refine stT rfl (fun hT hS=>?_) ?_
    ·obtain ⟨hv7,hr7⟩:=hT 7 170 rfl rfl
     obtain ⟨hv11,hr11⟩:=hT 11 174 rfl rfl
     obtain hS:=hS.flat2 hr7 hr11
     exact inNo rfl (opick rfl rfl (ev rfl hv7) (ev rfl hv11) (nSm rfl isI))
    refine stT rfl (fun hT hS=>?_) ?_
    ·obtain ⟨hv12,hr12⟩:=hT 12 175 rfl rfl
     obtain hS:=hS.flat1 hr12
     exact inNo rfl (omove rfl rfl (ev rfl hv12) (nSm rfl isI))
    refine stT rfl (fun hT hS=>?_) ?_
    ·obtain ⟨hv13,hr13⟩:=hT 13 176 rfl rfl
     obtain hS:=hS.flat1 hr13
     exact .inr ⟨want_off (e:=176) (b':=false) rfl rfl rfl hv13 rfl,isI⟩
    refine stT rfl (fun hT hS=>?_) ?_
    ·obtain ⟨hv13,hr13⟩:=hT 13 176 rfl rfl
     obtain hS:=hS.flat1 hr13
     exact .inr ⟨want_off (e:=176) (b':=false) rfl rfl rfl hv13 rfl,isI⟩
    refine stT rfl (fun hT hS=>?_) ?_
    ·obtain ⟨hv13,hr13⟩:=hT 13 176 rfl rfl
     obtain hS:=hS.flat1 hr13
     exact .inr ⟨want_off (e:=176) (b':=false) rfl rfl rfl hv13 rfl,isI⟩
    refine stT rfl (fun hT hS=>?_) ?_
    ·obtain ⟨hv13,hr13⟩:=hT 13 176 rfl rfl
     obtain ⟨hv15,hr15⟩:=hT 15 178 rfl rfl
     obtain ⟨hv16,hr16⟩:=hT 16 179 rfl rfl
     obtain hS:=hS.flat3 hr13 hr15 hr16
     exact .inr ⟨want_off (e:=176) (b':=false) rfl rfl rfl hv13 rfl,isI⟩
    refine stT rfl (fun hT hS=>?_) ?_
    ·obtain ⟨hv13,hr13⟩:=hT 13 176 rfl rfl
     obtain ⟨hv17,hr17⟩:=hT 17 180 rfl rfl
     obtain hS:=hS.flat2 hr13 hr17
     exact .inr ⟨want_off (e:=176) (b':=false) rfl rfl rfl hv13 rfl,isI⟩
    refine stT rfl (fun hT hS=>?_) ?_
    ·obtain ⟨hv13,hr13⟩:=hT 13 176 rfl rfl
     obtain ⟨hv18,hr18⟩:=hT 18 181 rfl rfl
     obtain hS:=hS.flat2 hr13 hr18
     exact .inr ⟨want_off (e:=176) (b':=false) rfl rfl rfl hv13 rfl,isI⟩
    refine stT rfl (fun hT hS=>?_) ?_
    ·obtain ⟨hv13,hr13⟩:=hT 13 176 rfl rfl
     obtain hS:=hS.flat1 hr13
     exact .inr ⟨want_off (e:=176) (b':=false) rfl rfl rfl hv13 rfl,isI⟩
    refine stT rfl (fun hT hS=>?_) ?_
    ·obtain ⟨hv13,hr13⟩:=hT 13 176 rfl rfl
     obtain hS:=hS.flat1 hr13
     exact .inr ⟨want_off (e:=176) (b':=false) rfl rfl rfl hv13 rfl,isI⟩
    refine stT rfl (fun hT hS=>?_) ?_
    ·obtain ⟨hv13,hr13⟩:=hT 13 176 rfl rfl
     obtain ⟨hv20,hr20⟩:=hT 20 183 rfl rfl
     obtain ⟨hv21,hr21⟩:=hT 21 184 rfl rfl
     obtain hS:=hS.flat3 hr13 hr20 hr21
     exact .inr ⟨want_off (e:=176) (b':=false) rfl rfl rfl hv13 rfl,isI⟩
    refine stT rfl (fun hT hS=>?_) ?_
    ·obtain ⟨hv13,hr13⟩:=hT 13 176 rfl rfl
     obtain ⟨hv22,hr22⟩:=hT 22 185 rfl rfl
     obtain hS:=hS.flat2 hr13 hr22
     exact .inr ⟨want_off (e:=176) (b':=false) rfl rfl rfl hv13 rfl,isI⟩
    refine stT rfl (fun hT hS=>?_) ?_
    ·obtain ⟨hv13,hr13⟩:=hT 13 176 rfl rfl
     obtain ⟨hv23,hr23⟩:=hT 23 186 rfl rfl
     obtain hS:=hS.flat2 hr13 hr23
     exact .inr ⟨want_off (e:=176) (b':=false) rfl rfl rfl hv13 rfl,isI⟩
    refine stT rfl (fun hT hS=>?_) ?_
    ·obtain ⟨hv13,hr13⟩:=hT 13 176 rfl rfl
     obtain ⟨hv14,hr14⟩:=hT 14 177 rfl rfl
     obtain ⟨hv19,hr19⟩:=hT 19 182 rfl rfl
     obtain ⟨hv24,hr24⟩:=hT 24 187 rfl rfl
     obtain hS:=hS.flat4 hr13 hr14 hr19 hr24
     exact .inr ⟨want_off (e:=176) (b':=false) rfl rfl rfl hv13 rfl,isI⟩
    refine stT rfl (fun hT hS=>?_) ?_
    ·obtain ⟨hv13,hr13⟩:=hT 13 176 rfl rfl
     obtain ⟨hv25,hr25⟩:=hT 25 188 rfl rfl
     obtain hS:=hS.flat2 hr13 hr25
     exact .inr ⟨want_off (e:=176) (b':=false) rfl rfl rfl hv13 rfl,isI⟩
    refine stT rfl (fun hT hS=>?_) ?_
    ·obtain ⟨hv13,hr13⟩:=hT 13 176 rfl rfl
     obtain ⟨hv26,hr26⟩:=hT 26 189 rfl rfl
     obtain hS:=hS.flat2 hr13 hr26
     exact inNo rfl (opick rfl rfl (ev rfl hv13) evc (nSm rfl isI))
    exact sNi
   intro vs ρ w10 f' hf hT hS
   obtain ⟨hv0,hr0⟩:=hT 0 (by decide)
   obtain ⟨hv1,hr1⟩:=hT 1 (by decide)
   obtain ⟨hv2,hr2⟩:=hT 2 (by decide)
   obtain ⟨hv3,hr3⟩:=hT 3 (by decide)
   obtain ⟨hv4,hr4⟩:=hT 4 (by decide)
   obtain ⟨hv5,hr5⟩:=hT 5 (by decide)
   obtain ⟨hv6,hr6⟩:=hT 6 (by decide)
   obtain ⟨hv7,hr7⟩:=hT 7 (by decide)
   obtain ⟨hv8,hr8⟩:=hT 8 (by decide)
   obtain ⟨hv9,hr9⟩:=hT 9 (by decide)
   obtain ⟨hv10,hr10⟩:=hT 10 (by decide)
   obtain ⟨hv11,hr11⟩:=hT 11 (by decide)
   obtain ⟨hv12,hr12⟩:=hT 12 (by decide)
   obtain ⟨hv13,hr13⟩:=hT 13 (by decide)
   obtain ⟨hv14,hr14⟩:=hT 14 (by decide)
   obtain ⟨hv15,hr15⟩:=hT 15 (by decide)
   obtain ⟨hv16,hr16⟩:=hT 16 (by decide)
   obtain ⟨hv17,hr17⟩:=hT 17 (by decide)
   obtain ⟨hv18,hr18⟩:=hT 18 (by decide)
   obtain ⟨hv19,hr19⟩:=hT 19 (by decide)
   obtain ⟨hv20,hr20⟩:=hT 20 (by decide)
   obtain ⟨hv21,hr21⟩:=hT 21 (by decide)
   obtain ⟨hv22,hr22⟩:=hT 22 (by decide)
   obtain ⟨hv23,hr23⟩:=hT 23 (by decide)
   obtain ⟨hv24,hr24⟩:=hT 24 (by decide)
   obtain ⟨hv25,hr25⟩:=hT 25 (by decide)
   obtain ⟨hv26,hr26⟩:=hT 26 (by decide)
   obtain ⟨hv27,hr27⟩:=hT 27 (by decide)
   simp only [pool,if_true,hr0,hr1,hr2,hr3,hr4,hr5,hr6,hr7,hr8,hr9,hr10,hr11,hr12,hr13,hr14,hr15,hr16,hr17,hr18,hr19,hr20,hr21,hr22,hr23,hr24,hr25,hr26,hr27,List.nil_append,List.cons_append,List.append_nil] at hS
   simp only [layf,hv0,hv1,hv2,hv3,hv4,hv5,hv6,hv7,hv8,hv9,hv10,hv11,hv12,hv13,hv14,hv15,hv16,hv17,hv18,hv19,hv20,hv21,hv22,hv23,hv24,hv25,hv26,hv27] at hf
   subst hf; clear hT hv0 hv1 hv2 hv3 hv4 hv5 hv6 hv7 hv8 hv9 hv10 hv11 hv12 hv13 hv14 hv15 hv16 hv17 hv18 hv19 hv20 hv21 hv22 hv23 hv24 hv25 hv26 hv27 hr0 hr1 hr2 hr3 hr4 hr5 hr6 hr7 hr8 hr9 hr10 hr11 hr12 hr13 hr14 hr15 hr16 hr17 hr18 hr19 hr20 hr21 hr22 hr23 hr24 hr25 hr26 hr27
   refine idone rfl ?_
   refine tNo ?_
   refine kwF (ev rfl rfl) ?_
   refine wSk (blkN (tNo (wSq (wSq ?_))))
   refine kreg ?_
   refine kl rfl (oL1 oneI hS 9 rfl rfl (ev rfl rfl) rfl rfl ?_)
   refine knil ?_
   refine tNo ?_
   refine kreg ?_
   refine kl rfl (oAl [.int .i64 0] hS rfl rfl Tryz.zeroValue3 rfl ?_)
   clear hS; intro gR2 w11 hS
   refine kl rfl (oSt _ _ Tryz.sizeOf3 hS 0 rfl rfl (ev rfl rfl) (ev rfl rfl) rfl rfl rfl rfl rfl rfl ?_)
   clear hS; intro w12 hS
   refine knil ?_
   refine tNo ?_
   refine kreg ?_
   refine kl rfl (oL1 oneI hS 0 rfl rfl (ev rfl rfl) rfl rfl ?_)
   refine kl rfl (obin (z:=.int .i64 ((rd + 1:Nat):Int)) rfl rfl (ev rfl rfl) evc (bAd (wI6 (by omega) (by omega))) ?_)
   refine kl rfl (oSt _ _ Tryz.sizeOf3 hS 0 rfl rfl (ev rfl rfl) (ev rfl rfl) rfl rfl rfl rfl rfl rfl ?_)
   clear hS; intro w13 hS
   refine knil ?_
   refine tNo ?_
   exact ⟨(rd + 1),⟨_,_,_,kact_sets ⟨rfl,rfl,rfl,rfl,rfl,trivial⟩,hS.pick [1,0,2,3,11,12,13] (by decide) rfl,by omega,by rw [List.length_cons,hDs]⟩,by omega⟩
  by_cases hst:((i:Nat):Int) = Zs
  ·
   refine cw_of_cr (m:=0) (istage (Ds:=(D :: Ds)) 28 [163,164,165,166,167,168,169,170,171,172,173,174,175,176,177,178,179,180,181,182,183,184,185,186,187,188,189,190] [[],[0],[1,0],[2,0,1],[2,0,1],[2,3,4,0,1],[2,5,0,1,3,4],[6,0,1,2,3,4,5],[7,0,1,2,3,4,5,6],[7,0,1,2,3,4,5,6],[7,9,0,1,2,3,4,5,6],[7,8,10,0,1,2,3,4,5,6,9],[7,11,0,1,2,3,4,5,6,8,9,10],[12,0,1,2,3,4,5,6,7,8,9,10,11],[13,0,1,2,3,4,5,6,7,8,9,10,11,12],[13,0,1,2,3,4,5,6,7,8,9,10,11,12],[13,0,1,2,3,4,5,6,7,8,9,10,11,12],[13,15,16,0,1,2,3,4,5,6,7,8,9,10,11,12],[13,17,0,1,2,3,4,5,6,7,8,9,10,11,12,15,16],[13,18,0,1,2,3,4,5,6,7,8,9,10,11,12,15,16,17],[13,0,1,2,3,4,5,6,7,8,9,10,11,12],[13,0,1,2,3,4,5,6,7,8,9,10,11,12],[13,20,21,0,1,2,3,4,5,6,7,8,9,10,11,12],[13,22,0,1,2,3,4,5,6,7,8,9,10,11,12,20,21],[13,23,0,1,2,3,4,5,6,7,8,9,10,11,12,20,21,22],[13,14,19,24,0,1,2,3,4,5,6,7,8,9,10,11,12,15,16,17,18,20,21,22,23],[13,25,0,1,2,3,4,5,6,7,8,9,10,11,12,14,15,16,17,18,19,20,21,22,23,24],[13,26,0,1,2,3,4,5,6,7,8,9,10,11,12,14,15,16,17,18,19,20,21,22,23,24,25]] [[],[],[],[],[],[],[],[],[],[],[],[],[],[],[],[],[],[],[],[],[],[],[],[],[],[],[],[]] [] [] (fun i9 => ([fun _ => Is (.int .i64 (rd:Int)),fun _ => Is (.bool false),fun _ => Is (.bool false),fun _ => Is (.int .i64 (i:Int)),fun _ => Is (.int .i64 Zs),fun _ => Is (.bool false),fun _ => Is (.bool false),fun _ => Is (.bool false),fun _ => Is undef,fun _ => Is undef,fun _ => Is undef,fun _ => Is undef,fun _ => Is (.bool false),fun _ => Is (.bool false),fun _ => Is undef,fun _ => Is undef,fun _ => Is undef,fun _ => Is undef,fun _ => Is undef,fun _ => Is undef,fun _ => Is undef,fun _ => Is undef,fun _ => Is undef,fun _ => Is undef,fun _ => Is undef,fun _ => Is undef,fun _ => Is undef,fun _ => Is (.bool false)]:List (List Value → Tell)).getD i9 (fun _ _ _ => False)) hNi rfl (by rfl) (by kernel_rfl) (by kernel_rfl) hS ?_ ?_)
   ·
    refine stH rfl (fun ho hS=>?_) ?_
    ·exact inNo rfl (oL1 oneI hS 9 rfl rfl (ev rfl (ho 15 rfl)) rfl rfl (nSm rfl isI))
    refine stT rfl (fun hT hS=>?_) ?_
    ·obtain ⟨hv0,hr0⟩:=hT 0 163 rfl rfl
     obtain hS:=hS.flat1 hr0
     exact inNo rfl (obin rfl rfl (ev rfl hv0) evc (bEq (eqF (by omega))) (nSm rfl isI))
    refine stT rfl (fun hT hS=>?_) ?_
    ·obtain ⟨hv1,hr1⟩:=hT 1 164 rfl rfl
     obtain hS:=hS.flat1 hr1
     exact inNo rfl (omove rfl rfl (ev rfl hv1) (nSm rfl isI))
    refine stC rfl (fun _ _ _ _ _ ho hT hS _=>?_) ?_
    ·obtain ⟨hv2,hr2⟩:=hT 2 165 rfl rfl
     obtain hS:=hS.flat1 hr2
     exact .inl ⟨want_on (e:=165) rfl rfl rfl hv2,oL1 oneI hS 3 rfl rfl (ev rfl (ho 17 rfl)) rfl rfl ⟨_,_,rfl,isI,New.same _⟩⟩
    refine stC rfl (fun _ _ _ _ _ ho hT hS _=>?_) ?_
    ·obtain ⟨hv2,hr2⟩:=hT 2 165 rfl rfl
     obtain hS:=hS.flat1 hr2
     exact .inl ⟨want_on (e:=165) rfl rfl rfl hv2,oL1 oneI hS 11 rfl rfl (ev rfl (ho 3 rfl)) rfl rfl ⟨_,_,rfl,isI,New.same _⟩⟩
    refine stT rfl (fun hT hS=>?_) ?_
    ·obtain ⟨hv2,hr2⟩:=hT 2 165 rfl rfl
     obtain ⟨hv3,hr3⟩:=hT 3 166 rfl rfl
     obtain ⟨hv4,hr4⟩:=hT 4 167 rfl rfl
     obtain hS:=hS.flat3 hr2 hr3 hr4
     exact .inl ⟨want_on (e:=165) rfl rfl rfl hv2,obin rfl rfl (ev rfl hv3) (ev rfl hv4) (bNe (neF hst)) ⟨_,_,rfl,isI,New.same _⟩⟩
    refine stT rfl (fun hT hS=>?_) ?_
    ·obtain ⟨hv2,hr2⟩:=hT 2 165 rfl rfl
     obtain ⟨hv5,hr5⟩:=hT 5 168 rfl rfl
     obtain hS:=hS.flat2 hr2 hr5
     exact inNo rfl (opick rfl rfl (ev rfl hv2) (ev rfl hv5) (nSm rfl isI))
    refine stT rfl (fun hT hS=>?_) ?_
    ·obtain ⟨hv6,hr6⟩:=hT 6 169 rfl rfl
     obtain hS:=hS.flat1 hr6
     exact inNo rfl (omove rfl rfl (ev rfl hv6) (nSm rfl isI))
    refine stT rfl (fun hT hS=>?_) ?_
    ·obtain ⟨hv7,hr7⟩:=hT 7 170 rfl rfl
     obtain hS:=hS.flat1 hr7
     exact .inr ⟨want_off (e:=170) (b':=false) rfl rfl rfl hv7 rfl,isI⟩
    refine stT rfl (fun hT hS=>?_) ?_
    ·obtain ⟨hv7,hr7⟩:=hT 7 170 rfl rfl
     obtain hS:=hS.flat1 hr7
     exact .inr ⟨want_off (e:=170) (b':=false) rfl rfl rfl hv7 rfl,isI⟩
    refine stT rfl (fun hT hS=>?_) ?_
    ·obtain ⟨hv7,hr7⟩:=hT 7 170 rfl rfl
     obtain ⟨hv9,hr9⟩:=hT 9 172 rfl rfl
     obtain hS:=hS.flat2 hr7 hr9
     exact .inr ⟨want_off (e:=170) (b':=false) rfl rfl rfl hv7 rfl,isI⟩
    refine stT rfl (fun hT hS=>?_) ?_
    ·obtain ⟨hv7,hr7⟩:=hT 7 170 rfl rfl
     obtain ⟨hv8,hr8⟩:=hT 8 171 rfl rfl
     obtain ⟨hv10,hr10⟩:=hT 10 173 rfl rfl
     obtain hS:=hS.flat3 hr7 hr8 hr10
     exact .inr ⟨want_off (e:=170) (b':=false) rfl rfl rfl hv7 rfl,isI⟩
    refine stT rfl (fun hT hS=>?_) ?_
    ·obtain ⟨hv7,hr7⟩:=hT 7 170 rfl rfl
     obtain ⟨hv11,hr11⟩:=hT 11 174 rfl rfl
     obtain hS:=hS.flat2 hr7 hr11
     exact inNo rfl (opick rfl rfl (ev rfl hv7) evc (nSm rfl isI))
    refine stT rfl (fun hT hS=>?_) ?_
    ·obtain ⟨hv12,hr12⟩:=hT 12 175 rfl rfl
     obtain hS:=hS.flat1 hr12
     exact inNo rfl (omove rfl rfl (ev rfl hv12) (nSm rfl isI))
    refine stT rfl (fun hT hS=>?_) ?_
    ·obtain ⟨hv13,hr13⟩:=hT 13 176 rfl rfl
     obtain hS:=hS.flat1 hr13
     exact .inr ⟨want_off (e:=176) (b':=false) rfl rfl rfl hv13 rfl,isI⟩
    refine stT rfl (fun hT hS=>?_) ?_
    ·obtain ⟨hv13,hr13⟩:=hT 13 176 rfl rfl
     obtain hS:=hS.flat1 hr13
     exact .inr ⟨want_off (e:=176) (b':=false) rfl rfl rfl hv13 rfl,isI⟩
    refine stT rfl (fun hT hS=>?_) ?_
    ·obtain ⟨hv13,hr13⟩:=hT 13 176 rfl rfl
     obtain hS:=hS.flat1 hr13
     exact .inr ⟨want_off (e:=176) (b':=false) rfl rfl rfl hv13 rfl,isI⟩
    refine stT rfl (fun hT hS=>?_) ?_
    ·obtain ⟨hv13,hr13⟩:=hT 13 176 rfl rfl
     obtain ⟨hv15,hr15⟩:=hT 15 178 rfl rfl
     obtain ⟨hv16,hr16⟩:=hT 16 179 rfl rfl
     obtain hS:=hS.flat3 hr13 hr15 hr16
     exact .inr ⟨want_off (e:=176) (b':=false) rfl rfl rfl hv13 rfl,isI⟩
    refine stT rfl (fun hT hS=>?_) ?_
    ·obtain ⟨hv13,hr13⟩:=hT 13 176 rfl rfl
     obtain ⟨hv17,hr17⟩:=hT 17 180 rfl rfl
     obtain hS:=hS.flat2 hr13 hr17
     exact .inr ⟨want_off (e:=176) (b':=false) rfl rfl rfl hv13 rfl,isI⟩
    refine stT rfl (fun hT hS=>?_) ?_
    ·obtain ⟨hv13,hr13⟩:=hT 13 176 rfl rfl
     obtain ⟨hv18,hr18⟩:=hT 18 181 rfl rfl
     obtain hS:=hS.flat2 hr13 hr18
     exact .inr ⟨want_off (e:=176) (b':=false) rfl rfl rfl hv13 rfl,isI⟩
    refine stT rfl (fun hT hS=>?_) ?_
    ·obtain ⟨hv13,hr13⟩:=hT 13 176 rfl rfl
     obtain hS:=hS.flat1 hr13
     exact .inr ⟨want_off (e:=176) (b':=false) rfl rfl rfl hv13 rfl,isI⟩
    refine stT rfl (fun hT hS=>?_) ?_
    ·obtain ⟨hv13,hr13⟩:=hT 13 176 rfl rfl
     obtain hS:=hS.flat1 hr13
     exact .inr ⟨want_off (e:=176) (b':=false) rfl rfl rfl hv13 rfl,isI⟩
    refine stT rfl (fun hT hS=>?_) ?_
    ·obtain ⟨hv13,hr13⟩:=hT 13 176 rfl rfl
     obtain ⟨hv20,hr20⟩:=hT 20 183 rfl rfl
     obtain ⟨hv21,hr21⟩:=hT 21 184 rfl rfl
     obtain hS:=hS.flat3 hr13 hr20 hr21
     exact .inr ⟨want_off (e:=176) (b':=false) rfl rfl rfl hv13 rfl,isI⟩
    refine stT rfl (fun hT hS=>?_) ?_
    ·obtain ⟨hv13,hr13⟩:=hT 13 176 rfl rfl
     obtain ⟨hv22,hr22⟩:=hT 22 185 rfl rfl
     obtain hS:=hS.flat2 hr13 hr22
     exact .inr ⟨want_off (e:=176) (b':=false) rfl rfl rfl hv13 rfl,isI⟩
    refine stT rfl (fun hT hS=>?_) ?_
    ·obtain ⟨hv13,hr13⟩:=hT 13 176 rfl rfl
     obtain ⟨hv23,hr23⟩:=hT 23 186 rfl rfl
     obtain hS:=hS.flat2 hr13 hr23
     exact .inr ⟨want_off (e:=176) (b':=false) rfl rfl rfl hv13 rfl,isI⟩
    refine stT rfl (fun hT hS=>?_) ?_
    ·obtain ⟨hv13,hr13⟩:=hT 13 176 rfl rfl
     obtain ⟨hv14,hr14⟩:=hT 14 177 rfl rfl
     obtain ⟨hv19,hr19⟩:=hT 19 182 rfl rfl
     obtain ⟨hv24,hr24⟩:=hT 24 187 rfl rfl
     obtain hS:=hS.flat4 hr13 hr14 hr19 hr24
     exact .inr ⟨want_off (e:=176) (b':=false) rfl rfl rfl hv13 rfl,isI⟩
    refine stT rfl (fun hT hS=>?_) ?_
    ·obtain ⟨hv13,hr13⟩:=hT 13 176 rfl rfl
     obtain ⟨hv25,hr25⟩:=hT 25 188 rfl rfl
     obtain hS:=hS.flat2 hr13 hr25
     exact .inr ⟨want_off (e:=176) (b':=false) rfl rfl rfl hv13 rfl,isI⟩
    refine stT rfl (fun hT hS=>?_) ?_
    ·obtain ⟨hv13,hr13⟩:=hT 13 176 rfl rfl
     obtain ⟨hv26,hr26⟩:=hT 26 189 rfl rfl
     obtain hS:=hS.flat2 hr13 hr26
     exact inNo rfl (opick rfl rfl (ev rfl hv13) evc (nSm rfl isI))
    exact sNi
   intro vs ρ w10 f' hf hT hS
   obtain ⟨hv0,hr0⟩:=hT 0 (by decide)
   obtain ⟨hv1,hr1⟩:=hT 1 (by decide)
   obtain ⟨hv2,hr2⟩:=hT 2 (by decide)
   obtain ⟨hv3,hr3⟩:=hT 3 (by decide)
   obtain ⟨hv4,hr4⟩:=hT 4 (by decide)
   obtain ⟨hv5,hr5⟩:=hT 5 (by decide)
   obtain ⟨hv6,hr6⟩:=hT 6 (by decide)
   obtain ⟨hv7,hr7⟩:=hT 7 (by decide)
   obtain ⟨hv8,hr8⟩:=hT 8 (by decide)
   obtain ⟨hv9,hr9⟩:=hT 9 (by decide)
   obtain ⟨hv10,hr10⟩:=hT 10 (by decide)
   obtain ⟨hv11,hr11⟩:=hT 11 (by decide)
   obtain ⟨hv12,hr12⟩:=hT 12 (by decide)
   obtain ⟨hv13,hr13⟩:=hT 13 (by decide)
   obtain ⟨hv14,hr14⟩:=hT 14 (by decide)
   obtain ⟨hv15,hr15⟩:=hT 15 (by decide)
   obtain ⟨hv16,hr16⟩:=hT 16 (by decide)
   obtain ⟨hv17,hr17⟩:=hT 17 (by decide)
   obtain ⟨hv18,hr18⟩:=hT 18 (by decide)
   obtain ⟨hv19,hr19⟩:=hT 19 (by decide)
   obtain ⟨hv20,hr20⟩:=hT 20 (by decide)
   obtain ⟨hv21,hr21⟩:=hT 21 (by decide)
   obtain ⟨hv22,hr22⟩:=hT 22 (by decide)
   obtain ⟨hv23,hr23⟩:=hT 23 (by decide)
   obtain ⟨hv24,hr24⟩:=hT 24 (by decide)
   obtain ⟨hv25,hr25⟩:=hT 25 (by decide)
   obtain ⟨hv26,hr26⟩:=hT 26 (by decide)
   obtain ⟨hv27,hr27⟩:=hT 27 (by decide)
   simp only [pool,if_true,hr0,hr1,hr2,hr3,hr4,hr5,hr6,hr7,hr8,hr9,hr10,hr11,hr12,hr13,hr14,hr15,hr16,hr17,hr18,hr19,hr20,hr21,hr22,hr23,hr24,hr25,hr26,hr27,List.nil_append,List.cons_append,List.append_nil] at hS
   simp only [layf,hv0,hv1,hv2,hv3,hv4,hv5,hv6,hv7,hv8,hv9,hv10,hv11,hv12,hv13,hv14,hv15,hv16,hv17,hv18,hv19,hv20,hv21,hv22,hv23,hv24,hv25,hv26,hv27] at hf
   subst hf; clear hT hv0 hv1 hv2 hv3 hv4 hv5 hv6 hv7 hv8 hv9 hv10 hv11 hv12 hv13 hv14 hv15 hv16 hv17 hv18 hv19 hv20 hv21 hv22 hv23 hv24 hv25 hv26 hv27 hr0 hr1 hr2 hr3 hr4 hr5 hr6 hr7 hr8 hr9 hr10 hr11 hr12 hr13 hr14 hr15 hr16 hr17 hr18 hr19 hr20 hr21 hr22 hr23 hr24 hr25 hr26 hr27
   refine idone rfl ?_
   refine tNo ?_
   refine kwF (ev rfl rfl) ?_
   refine wSk (blkN (tNo (wSq (wSq ?_))))
   refine kreg ?_
   refine kl rfl (oL1 oneI hS 9 rfl rfl (ev rfl rfl) rfl rfl ?_)
   refine knil ?_
   refine tNo ?_
   refine kreg ?_
   refine kl rfl (oAl [.int .i64 0] hS rfl rfl Tryz.zeroValue3 rfl ?_)
   clear hS; intro gR2 w11 hS
   refine kl rfl (oSt _ _ Tryz.sizeOf3 hS 0 rfl rfl (ev rfl rfl) (ev rfl rfl) rfl rfl rfl rfl rfl rfl ?_)
   clear hS; intro w12 hS
   refine knil ?_
   refine tNo ?_
   refine kreg ?_
   refine kl rfl (oL1 oneI hS 0 rfl rfl (ev rfl rfl) rfl rfl ?_)
   refine kl rfl (obin (z:=.int .i64 ((rd + 1:Nat):Int)) rfl rfl (ev rfl rfl) evc (bAd (wI6 (by omega) (by omega))) ?_)
   refine kl rfl (oSt _ _ Tryz.sizeOf3 hS 0 rfl rfl (ev rfl rfl) (ev rfl rfl) rfl rfl rfl rfl rfl rfl ?_)
   clear hS; intro w13 hS
   refine knil ?_
   refine tNo ?_
   exact ⟨(rd + 1),⟨_,_,_,kact_sets ⟨rfl,rfl,rfl,rfl,rfl,trivial⟩,hS.pick [1,0,2,3,11,12,13] (by decide) rfl,by omega,by rw [List.length_cons,hDs]⟩,by omega⟩
  have hki:i = k:=hJ.resolve_right (fun h => hst h.2)
  by_cases hlt:i < n
  ·
   obtain ⟨x,hx⟩:∃ x,L[i]? = some x:=⟨_,List.getElem?_eq_getElem (by omega)⟩
   obtain ⟨b,off,hpx,hcx⟩:=hL.2.2 _ x hx
   have hx32:=h32 x (List.mem_of_getElem? hx)
   obtain ⟨e2,he2⟩:∃ e2:Nat,Hid (eno (mods (L.take i)) x.2 = e2):=⟨_,rfl⟩
   have hen:e2 ≠ 0:=by rw [← he2.out]; have h9:=hk.no x (hki ▸ hx); rwa [← hki] at h9
   refine cw_of_cr (m:=0) (istage (Ds:=(D :: Ds)) 25 [163,164,165,166,167,168,169,170,171,172,173,174,175,176,177,178,179,180,181,182,183,184,185,186,187] [[],[0],[1,0],[2,0,1],[2,0,1],[2,3,4,0,1],[2,5,0,1,3,4],[6,0,1,2,3,4,5],[7,0,1,2,3,4,5,6],[7,0,1,2,3,4,5,6],[7,9,0,1,2,3,4,5,6],[7,8,10,0,1,2,3,4,5,6,9],[7,11,0,1,2,3,4,5,6,8,9,10],[12,0,1,2,3,4,5,6,7,8,9,10,11],[13,0,1,2,3,4,5,6,7,8,9,10,11,12],[13,0,1,2,3,4,5,6,7,8,9,10,11,12],[13,0,1,2,3,4,5,6,7,8,9,10,11,12],[13,15,16,0,1,2,3,4,5,6,7,8,9,10,11,12],[13,17,0,1,2,3,4,5,6,7,8,9,10,11,12,15,16],[13,18,0,1,2,3,4,5,6,7,8,9,10,11,12,15,16,17],[13,0,1,2,3,4,5,6,7,8,9,10,11,12],[13,0,1,2,3,4,5,6,7,8,9,10,11,12],[13,20,21,0,1,2,3,4,5,6,7,8,9,10,11,12],[13,22,0,1,2,3,4,5,6,7,8,9,10,11,12,20,21],[13,23,0,1,2,3,4,5,6,7,8,9,10,11,12,20,21,22]] [[],[],[],[],[],[],[],[],[],[],[],[],[],[],[],[],[],[],[],[],[],[],[],[],[]] [] [] (fun i9 => ([fun _ => Is (.int .i64 (rd:Int)),fun _ => Is (.bool false),fun _ => Is (.bool false),fun _ => Is (.int .i64 (i:Int)),fun _ => Is (.int .i64 Zs),fun _ => Is (.bool true),fun _ => Is (.bool true),fun _ => Is (.bool true),fun _ => Is (.int .i64 (i:Int)),fun _ => Is (.slice p n c),fun _ => Is (.int .i64 (n:Int)),fun _ => Is (.bool true),fun _ => Is (.bool true),fun _ => Is (.bool true),fun _ => Is (.pointer (some ⟨gF,0,none⟩)),fun _ => Is (.slice p n c),fun _ => Is (.int .i64 (i:Int)),fun _ => Is (.pointer (some ⟨b,(off + i * 2),none⟩)),fun _ => Is (.pointer (some ⟨b,((off + i * 2) + 0),none⟩)),fun _ => Is (.int .u32 (x.1:Int)),fun _ => Is (.slice p n c),fun _ => Is (.int .i64 (i:Int)),fun _ => Is (.pointer (some ⟨b,(off + i * 2),none⟩)),fun _ => Is (.pointer (some ⟨b,((off + i * 2) + 1),none⟩)),fun _ => Is (.int .u32 (x.2:Int))]:List (List Value → Tell)).getD i9 (fun _ _ _ => False)) hNi rfl (by rfl) (by kernel_rfl) (by kernel_rfl) hS ?_ ?_)
   ·
    refine stH rfl (fun ho hS=>?_) ?_
    ·exact inNo rfl (oL1 oneI hS 9 rfl rfl (ev rfl (ho 15 rfl)) rfl rfl (nSm rfl isI))
    refine stT rfl (fun hT hS=>?_) ?_
    ·obtain ⟨hv0,hr0⟩:=hT 0 163 rfl rfl
     obtain hS:=hS.flat1 hr0
     exact inNo rfl (obin rfl rfl (ev rfl hv0) evc (bEq (eqF (by omega))) (nSm rfl isI))
    refine stT rfl (fun hT hS=>?_) ?_
    ·obtain ⟨hv1,hr1⟩:=hT 1 164 rfl rfl
     obtain hS:=hS.flat1 hr1
     exact inNo rfl (omove rfl rfl (ev rfl hv1) (nSm rfl isI))
    refine stC rfl (fun _ _ _ _ _ ho hT hS _=>?_) ?_
    ·obtain ⟨hv2,hr2⟩:=hT 2 165 rfl rfl
     obtain hS:=hS.flat1 hr2
     exact .inl ⟨want_on (e:=165) rfl rfl rfl hv2,oL1 oneI hS 3 rfl rfl (ev rfl (ho 17 rfl)) rfl rfl ⟨_,_,rfl,isI,New.same _⟩⟩
    refine stC rfl (fun _ _ _ _ _ ho hT hS _=>?_) ?_
    ·obtain ⟨hv2,hr2⟩:=hT 2 165 rfl rfl
     obtain hS:=hS.flat1 hr2
     exact .inl ⟨want_on (e:=165) rfl rfl rfl hv2,oL1 oneI hS 11 rfl rfl (ev rfl (ho 3 rfl)) rfl rfl ⟨_,_,rfl,isI,New.same _⟩⟩
    refine stT rfl (fun hT hS=>?_) ?_
    ·obtain ⟨hv2,hr2⟩:=hT 2 165 rfl rfl
     obtain ⟨hv3,hr3⟩:=hT 3 166 rfl rfl
     obtain ⟨hv4,hr4⟩:=hT 4 167 rfl rfl
     obtain hS:=hS.flat3 hr2 hr3 hr4
     exact .inl ⟨want_on (e:=165) rfl rfl rfl hv2,obin rfl rfl (ev rfl hv3) (ev rfl hv4) (bNe (neT hst)) ⟨_,_,rfl,isI,New.same _⟩⟩
    refine stT rfl (fun hT hS=>?_) ?_
    ·obtain ⟨hv2,hr2⟩:=hT 2 165 rfl rfl
     obtain ⟨hv5,hr5⟩:=hT 5 168 rfl rfl
     obtain hS:=hS.flat2 hr2 hr5
     exact inNo rfl (opick rfl rfl (ev rfl hv2) (ev rfl hv5) (nSm rfl isI))
    refine stT rfl (fun hT hS=>?_) ?_
    ·obtain ⟨hv6,hr6⟩:=hT 6 169 rfl rfl
     obtain hS:=hS.flat1 hr6
     exact inNo rfl (omove rfl rfl (ev rfl hv6) (nSm rfl isI))
    refine stC rfl (fun _ _ _ _ _ ho hT hS _=>?_) ?_
    ·obtain ⟨hv7,hr7⟩:=hT 7 170 rfl rfl
     obtain hS:=hS.flat1 hr7
     exact .inl ⟨want_on (e:=170) rfl rfl rfl hv7,oL1 oneI hS 3 rfl rfl (ev rfl (ho 17 rfl)) rfl rfl ⟨_,_,rfl,isI,New.same _⟩⟩
    refine stC rfl (fun _ _ _ _ _ ho hT hS _=>?_) ?_
    ·obtain ⟨hv7,hr7⟩:=hT 7 170 rfl rfl
     obtain hS:=hS.flat1 hr7
     exact .inl ⟨want_on (e:=170) rfl rfl rfl hv7,oL1 ⟨Tryz.isAgg22,Tryz.sizeOf22⟩ hS 10 rfl rfl (ev rfl (ho 2 rfl)) rfl rfl ⟨_,_,rfl,isI,New.same _⟩⟩
    refine stT rfl (fun hT hS=>?_) ?_
    ·obtain ⟨hv7,hr7⟩:=hT 7 170 rfl rfl
     obtain ⟨hv9,hr9⟩:=hT 9 172 rfl rfl
     obtain hS:=hS.flat2 hr7 hr9
     exact .inl ⟨want_on (e:=170) rfl rfl rfl hv7,olen rfl rfl rfl Tryz.runUnderlying22 (p:=p) (k:=n) (m:=c) (ev rfl hv9) ⟨_,_,rfl,isI,New.same _⟩⟩
    refine stT rfl (fun hT hS=>?_) ?_
    ·obtain ⟨hv7,hr7⟩:=hT 7 170 rfl rfl
     obtain ⟨hv8,hr8⟩:=hT 8 171 rfl rfl
     obtain ⟨hv10,hr10⟩:=hT 10 173 rfl rfl
     obtain hS:=hS.flat3 hr7 hr8 hr10
     exact .inl ⟨want_on (e:=170) rfl rfl rfl hv7,obin rfl rfl (ev rfl hv8) (ev rfl hv10) (bLs (decide_eq_true (by omega))) ⟨_,_,rfl,isI,New.same _⟩⟩
    refine stT rfl (fun hT hS=>?_) ?_
    ·obtain ⟨hv7,hr7⟩:=hT 7 170 rfl rfl
     obtain ⟨hv11,hr11⟩:=hT 11 174 rfl rfl
     obtain hS:=hS.flat2 hr7 hr11
     exact inNo rfl (opick rfl rfl (ev rfl hv7) (ev rfl hv11) (nSm rfl isI))
    refine stT rfl (fun hT hS=>?_) ?_
    ·obtain ⟨hv12,hr12⟩:=hT 12 175 rfl rfl
     obtain hS:=hS.flat1 hr12
     exact inNo rfl (omove rfl rfl (ev rfl hv12) (nSm rfl isI))
    refine stC rfl (fun _ _ _ _ _ ho hT hS _=>?_) ?_
    ·obtain ⟨hv13,hr13⟩:=hT 13 176 rfl rfl
     obtain hS:=hS.flat1 hr13
     exact .inl ⟨want_on (e:=176) rfl rfl rfl hv13,oL1 ⟨Tryz.isAgg30,Tryz.sizeOf30⟩ hS 4 rfl rfl (ev rfl (ho 16 rfl)) rfl rfl ⟨_,_,rfl,isI,New.same _⟩⟩
    refine stC rfl (fun _ _ _ _ _ ho hT hS _=>?_) ?_
    ·obtain ⟨hv13,hr13⟩:=hT 13 176 rfl rfl
     obtain hS:=hS.flat1 hr13
     exact .inl ⟨want_on (e:=176) rfl rfl rfl hv13,oL1 ⟨Tryz.isAgg22,Tryz.sizeOf22⟩ hS 10 rfl rfl (ev rfl (ho 2 rfl)) rfl rfl ⟨_,_,rfl,isI,New.same _⟩⟩
    refine stC rfl (fun _ _ _ _ _ ho hT hS _=>?_) ?_
    ·obtain ⟨hv13,hr13⟩:=hT 13 176 rfl rfl
     obtain hS:=hS.flat1 hr13
     exact .inl ⟨want_on (e:=176) rfl rfl rfl hv13,oL1 oneI hS 3 rfl rfl (ev rfl (ho 17 rfl)) rfl rfl ⟨_,_,rfl,isI,New.same _⟩⟩
    refine stT rfl (fun hT hS=>?_) ?_
    ·obtain ⟨hv13,hr13⟩:=hT 13 176 rfl rfl
     obtain ⟨hv15,hr15⟩:=hT 15 178 rfl rfl
     obtain ⟨hv16,hr16⟩:=hT 16 179 rfl rfl
     obtain hS:=hS.flat3 hr13 hr15 hr16
     exact .inl ⟨want_on (e:=176) rfl rfl rfl hv13,oIx (p:=p) (g:=b) (off:=off) (m:=n) (k:=i) (j:=(off + i * 2)) rfl rfl Tryz.runUnderlying22 Tryz.sizeOf45 (ev rfl hv15) hpx (ev rfl hv16) hlt rfl ⟨_,_,rfl,isI,New.same _⟩⟩
    refine stT rfl (fun hT hS=>?_) ?_
    ·obtain ⟨hv13,hr13⟩:=hT 13 176 rfl rfl
     obtain ⟨hv17,hr17⟩:=hT 17 180 rfl rfl
     obtain hS:=hS.flat2 hr13 hr17
     exact .inl ⟨want_on (e:=176) rfl rfl rfl hv13,oFA (g:=b) (off:=(off + i * 2)) ((off + i * 2) + 0) rfl rfl (ev rfl hv17) Tryz.runUnderlying45 rfl Tryz.sizeOf38 rfl ⟨_,_,rfl,isI,New.same _⟩⟩
    refine stT rfl (fun hT hS=>?_) ?_
    ·obtain ⟨hv13,hr13⟩:=hT 13 176 rfl rfl
     obtain ⟨hv18,hr18⟩:=hT 18 181 rfl rfl
     obtain hS:=hS.flat2 hr13 hr18
     exact .inl ⟨want_on (e:=176) rfl rfl rfl hv13,oLc one32 rfl rfl (ev rfl hv18) (hS.cellAt ((cell_sub (us:=[.int .u32 (x.1:Int)]) hcx 0 rfl) 0 _ rfl)) ⟨_,_,rfl,isI,New.same _⟩⟩
    refine stC rfl (fun _ _ _ _ _ ho hT hS _=>?_) ?_
    ·obtain ⟨hv13,hr13⟩:=hT 13 176 rfl rfl
     obtain hS:=hS.flat1 hr13
     exact .inl ⟨want_on (e:=176) rfl rfl rfl hv13,oL1 ⟨Tryz.isAgg22,Tryz.sizeOf22⟩ hS 10 rfl rfl (ev rfl (ho 2 rfl)) rfl rfl ⟨_,_,rfl,isI,New.same _⟩⟩
    refine stC rfl (fun _ _ _ _ _ ho hT hS _=>?_) ?_
    ·obtain ⟨hv13,hr13⟩:=hT 13 176 rfl rfl
     obtain hS:=hS.flat1 hr13
     exact .inl ⟨want_on (e:=176) rfl rfl rfl hv13,oL1 oneI hS 3 rfl rfl (ev rfl (ho 17 rfl)) rfl rfl ⟨_,_,rfl,isI,New.same _⟩⟩
    refine stT rfl (fun hT hS=>?_) ?_
    ·obtain ⟨hv13,hr13⟩:=hT 13 176 rfl rfl
     obtain ⟨hv20,hr20⟩:=hT 20 183 rfl rfl
     obtain ⟨hv21,hr21⟩:=hT 21 184 rfl rfl
     obtain hS:=hS.flat3 hr13 hr20 hr21
     exact .inl ⟨want_on (e:=176) rfl rfl rfl hv13,oIx (p:=p) (g:=b) (off:=off) (m:=n) (k:=i) (j:=(off + i * 2)) rfl rfl Tryz.runUnderlying22 Tryz.sizeOf45 (ev rfl hv20) hpx (ev rfl hv21) hlt rfl ⟨_,_,rfl,isI,New.same _⟩⟩
    refine stT rfl (fun hT hS=>?_) ?_
    ·obtain ⟨hv13,hr13⟩:=hT 13 176 rfl rfl
     obtain ⟨hv22,hr22⟩:=hT 22 185 rfl rfl
     obtain hS:=hS.flat2 hr13 hr22
     exact .inl ⟨want_on (e:=176) rfl rfl rfl hv13,oFA (g:=b) (off:=(off + i * 2)) ((off + i * 2) + 1) rfl rfl (ev rfl hv22) Tryz.runUnderlying45 rfl Tryz.sizeOf38 rfl ⟨_,_,rfl,isI,New.same _⟩⟩
    refine stT rfl (fun hT hS=>?_) ?_
    ·obtain ⟨hv13,hr13⟩:=hT 13 176 rfl rfl
     obtain ⟨hv23,hr23⟩:=hT 23 186 rfl rfl
     obtain hS:=hS.flat2 hr13 hr23
     exact .inl ⟨want_on (e:=176) rfl rfl rfl hv13,oLc one32 rfl rfl (ev rfl hv23) (hS.cellAt ((cell_sub (us:=[.int .u32 (x.2:Int)]) hcx 1 rfl) 0 _ rfl)) ⟨_,_,rfl,isI,New.same _⟩⟩
    exact sNi
   intro vs ρ w10 f' hf hT hS
   obtain ⟨hv0,hr0⟩:=hT 0 (by decide)
   obtain ⟨hv1,hr1⟩:=hT 1 (by decide)
   obtain ⟨hv2,hr2⟩:=hT 2 (by decide)
   obtain ⟨hv3,hr3⟩:=hT 3 (by decide)
   obtain ⟨hv4,hr4⟩:=hT 4 (by decide)
   obtain ⟨hv5,hr5⟩:=hT 5 (by decide)
   obtain ⟨hv6,hr6⟩:=hT 6 (by decide)
   obtain ⟨hv7,hr7⟩:=hT 7 (by decide)
   obtain ⟨hv8,hr8⟩:=hT 8 (by decide)
   obtain ⟨hv9,hr9⟩:=hT 9 (by decide)
   obtain ⟨hv10,hr10⟩:=hT 10 (by decide)
   obtain ⟨hv11,hr11⟩:=hT 11 (by decide)
   obtain ⟨hv12,hr12⟩:=hT 12 (by decide)
   obtain ⟨hv13,hr13⟩:=hT 13 (by decide)
   obtain ⟨hv14,hr14⟩:=hT 14 (by decide)
   obtain ⟨hv15,hr15⟩:=hT 15 (by decide)
   obtain ⟨hv16,hr16⟩:=hT 16 (by decide)
   obtain ⟨hv17,hr17⟩:=hT 17 (by decide)
   obtain ⟨hv18,hr18⟩:=hT 18 (by decide)
   obtain ⟨hv19,hr19⟩:=hT 19 (by decide)
   obtain ⟨hv20,hr20⟩:=hT 20 (by decide)
   obtain ⟨hv21,hr21⟩:=hT 21 (by decide)
   obtain ⟨hv22,hr22⟩:=hT 22 (by decide)
   obtain ⟨hv23,hr23⟩:=hT 23 (by decide)
   obtain ⟨hv24,hr24⟩:=hT 24 (by decide)
   simp only [pool,if_true,hr0,hr1,hr2,hr3,hr4,hr5,hr6,hr7,hr8,hr9,hr10,hr11,hr12,hr13,hr14,hr15,hr16,hr17,hr18,hr19,hr20,hr21,hr22,hr23,hr24,List.nil_append,List.cons_append,List.append_nil] at hS
   simp only [layf,hv0,hv1,hv2,hv3,hv4,hv5,hv6,hv7,hv8,hv9,hv10,hv11,hv12,hv13,hv14,hv15,hv16,hv17,hv18,hv19,hv20,hv21,hv22,hv23,hv24] at hf
   subst hf; clear hT hv0 hv1 hv2 hv3 hv4 hv5 hv6 hv7 hv8 hv9 hv10 hv11 hv12 hv13 hv14 hv15 hv16 hv17 hv18 hv19 hv20 hv21 hv22 hv23 hv24 hr0 hr1 hr2 hr3 hr4 hr5 hr6 hr7 hr8 hr9 hr10 hr11 hr12 hr13 hr14 hr15 hr16 hr17 hr18 hr19 hr20 hr21 hr22 hr23 hr24
   obtain hS:=(show Sep w0 [.blk gF [.slice pV nV cV,.slice pM nM cM,.slice pF ((L.take i).length) cF] 37,.lst 45 2 pF ((L.take i).length) cF (rpE (rps (L.take i))),.row pV nV cV (lim (cv (L.take i)).1),.row pM nM cM (lim (cv (L.take i)).2),Dpk (D :: Ds),.blk gc [.slice pS L.length cS] 22,.lst 45 2 pS L.length cS (rpE L),.blk gI [.int .i64 (((i:Nat):Int))] 3,.blk gP [.pointer (some ⟨gF,0,none⟩)] 30,.blk gR [.int .i64 (((rd:Nat):Int))] 3,.blk g2 [.slice p n c] 22,.blk g3 [.int .i64 Zs] 3,.blk g4 [.bool false] 4] w10 from hS.pick [5,6,7,8,0,1,2,3,4,9,10,11,12] (by decide) rfl)
   refine ilateOn 25 (e:=176) rfl (by kernel_rfl) rfl rfl rfl rfl rfl (oCl rfl rfl Tryz.call12 rfl (wkaddA (K2:=L.take i) hok (by rw [List.length_take]; omega) hx32.1 hx32.2 (show Hid (_ = _) from nxt_no (by rw [he2.out]; exact hen)) he2 hS) (args3 (ev rfl rfl) (ev rfl rfl) (ev rfl rfl)) ?_)
   rintro _ w11 ⟨_,_,rfl,⟨pV2,nV2,cV2,pM2,nM2,cM2,pF2,cF2,rfl,rfl⟩,hN⟩
   refine ⟨_,rfl,?_⟩
   clear hS; have hS:=hN; clear hN
   refine ⟨hNi,?_⟩
   refine ilateOn 26 (e:=176) rfl (by kernel_rfl) rfl rfl rfl rfl rfl (obin rfl rfl (ev rfl rfl) evc (bEq (eqF (by omega))) ?_)
   refine ⟨hNi,?_⟩
   refine ilate 27 rfl (by kernel_rfl) rfl (opick rfl rfl (ev rfl rfl) (ev rfl rfl) ?_)
   refine ⟨hNi,?_⟩
   refine idone rfl ?_
   refine tNo ?_
   refine kwF (ev rfl rfl) ?_
   refine wSk (blkN (tNo (wSq (wSq ?_))))
   refine kreg ?_
   refine kl rfl (oL1 oneI hS 9 rfl rfl (ev rfl rfl) rfl rfl ?_)
   refine knil ?_
   refine tNo ?_
   refine kreg ?_
   refine kl rfl (oAl [.int .i64 0] hS rfl rfl Tryz.zeroValue3 rfl ?_)
   clear hS; intro gR2 w12 hS
   refine kl rfl (oSt _ _ Tryz.sizeOf3 hS 0 rfl rfl (ev rfl rfl) (ev rfl rfl) rfl rfl rfl rfl rfl rfl ?_)
   clear hS; intro w13 hS
   refine knil ?_
   refine tNo ?_
   refine kreg ?_
   refine kl rfl (oL1 oneI hS 0 rfl rfl (ev rfl rfl) rfl rfl ?_)
   refine kl rfl (obin (z:=.int .i64 ((rd + 1:Nat):Int)) rfl rfl (ev rfl rfl) evc (bAd (wI6 (by omega) (by omega))) ?_)
   refine kl rfl (oSt _ _ Tryz.sizeOf3 hS 0 rfl rfl (ev rfl rfl) (ev rfl rfl) rfl rfl rfl rfl rfl rfl ?_)
   clear hS; intro w14 hS
   refine knil ?_
   refine tNo ?_
   exact ⟨(rd + 1),⟨_,_,_,kact_sets ⟨rfl,rfl,rfl,rfl,rfl,trivial⟩,hS.pick [5,0,6,7,11,12,13] (by decide) rfl,by omega,by rw [List.length_cons,hDs]⟩,by omega⟩
  refine cw_of_cr (m:=0) (istage (Ds:=(D :: Ds)) 28 [163,164,165,166,167,168,169,170,171,172,173,174,175,176,177,178,179,180,181,182,183,184,185,186,187,188,189,190] [[],[0],[1,0],[2,0,1],[2,0,1],[2,3,4,0,1],[2,5,0,1,3,4],[6,0,1,2,3,4,5],[7,0,1,2,3,4,5,6],[7,0,1,2,3,4,5,6],[7,9,0,1,2,3,4,5,6],[7,8,10,0,1,2,3,4,5,6,9],[7,11,0,1,2,3,4,5,6,8,9,10],[12,0,1,2,3,4,5,6,7,8,9,10,11],[13,0,1,2,3,4,5,6,7,8,9,10,11,12],[13,0,1,2,3,4,5,6,7,8,9,10,11,12],[13,0,1,2,3,4,5,6,7,8,9,10,11,12],[13,15,16,0,1,2,3,4,5,6,7,8,9,10,11,12],[13,17,0,1,2,3,4,5,6,7,8,9,10,11,12,15,16],[13,18,0,1,2,3,4,5,6,7,8,9,10,11,12,15,16,17],[13,0,1,2,3,4,5,6,7,8,9,10,11,12],[13,0,1,2,3,4,5,6,7,8,9,10,11,12],[13,20,21,0,1,2,3,4,5,6,7,8,9,10,11,12],[13,22,0,1,2,3,4,5,6,7,8,9,10,11,12,20,21],[13,23,0,1,2,3,4,5,6,7,8,9,10,11,12,20,21,22],[13,14,19,24,0,1,2,3,4,5,6,7,8,9,10,11,12,15,16,17,18,20,21,22,23],[13,25,0,1,2,3,4,5,6,7,8,9,10,11,12,14,15,16,17,18,19,20,21,22,23,24],[13,26,0,1,2,3,4,5,6,7,8,9,10,11,12,14,15,16,17,18,19,20,21,22,23,24,25]] [[],[],[],[],[],[],[],[],[],[],[],[],[],[],[],[],[],[],[],[],[],[],[],[],[],[],[],[]] [] [] (fun i9 => ([fun _ => Is (.int .i64 (rd:Int)),fun _ => Is (.bool false),fun _ => Is (.bool false),fun _ => Is (.int .i64 (i:Int)),fun _ => Is (.int .i64 Zs),fun _ => Is (.bool true),fun _ => Is (.bool true),fun _ => Is (.bool true),fun _ => Is (.int .i64 (i:Int)),fun _ => Is (.slice p n c),fun _ => Is (.int .i64 (n:Int)),fun _ => Is (.bool false),fun _ => Is (.bool false),fun _ => Is (.bool false),fun _ => Is undef,fun _ => Is undef,fun _ => Is undef,fun _ => Is undef,fun _ => Is undef,fun _ => Is undef,fun _ => Is undef,fun _ => Is undef,fun _ => Is undef,fun _ => Is undef,fun _ => Is undef,fun _ => Is undef,fun _ => Is undef,fun _ => Is (.bool false)]:List (List Value → Tell)).getD i9 (fun _ _ _ => False)) hNi rfl (by rfl) (by kernel_rfl) (by kernel_rfl) hS ?_ ?_)
  ·
   refine stH rfl (fun ho hS=>?_) ?_
   ·exact inNo rfl (oL1 oneI hS 9 rfl rfl (ev rfl (ho 15 rfl)) rfl rfl (nSm rfl isI))
   refine stT rfl (fun hT hS=>?_) ?_
   ·obtain ⟨hv0,hr0⟩:=hT 0 163 rfl rfl
    obtain hS:=hS.flat1 hr0
    exact inNo rfl (obin rfl rfl (ev rfl hv0) evc (bEq (eqF (by omega))) (nSm rfl isI))
   refine stT rfl (fun hT hS=>?_) ?_
   ·obtain ⟨hv1,hr1⟩:=hT 1 164 rfl rfl
    obtain hS:=hS.flat1 hr1
    exact inNo rfl (omove rfl rfl (ev rfl hv1) (nSm rfl isI))
   refine stC rfl (fun _ _ _ _ _ ho hT hS _=>?_) ?_
   ·obtain ⟨hv2,hr2⟩:=hT 2 165 rfl rfl
    obtain hS:=hS.flat1 hr2
    exact .inl ⟨want_on (e:=165) rfl rfl rfl hv2,oL1 oneI hS 3 rfl rfl (ev rfl (ho 17 rfl)) rfl rfl ⟨_,_,rfl,isI,New.same _⟩⟩
   refine stC rfl (fun _ _ _ _ _ ho hT hS _=>?_) ?_
   ·obtain ⟨hv2,hr2⟩:=hT 2 165 rfl rfl
    obtain hS:=hS.flat1 hr2
    exact .inl ⟨want_on (e:=165) rfl rfl rfl hv2,oL1 oneI hS 11 rfl rfl (ev rfl (ho 3 rfl)) rfl rfl ⟨_,_,rfl,isI,New.same _⟩⟩
   refine stT rfl (fun hT hS=>?_) ?_
   ·obtain ⟨hv2,hr2⟩:=hT 2 165 rfl rfl
    obtain ⟨hv3,hr3⟩:=hT 3 166 rfl rfl
    obtain ⟨hv4,hr4⟩:=hT 4 167 rfl rfl
    obtain hS:=hS.flat3 hr2 hr3 hr4
    exact .inl ⟨want_on (e:=165) rfl rfl rfl hv2,obin rfl rfl (ev rfl hv3) (ev rfl hv4) (bNe (neT hst)) ⟨_,_,rfl,isI,New.same _⟩⟩
   refine stT rfl (fun hT hS=>?_) ?_
   ·obtain ⟨hv2,hr2⟩:=hT 2 165 rfl rfl
    obtain ⟨hv5,hr5⟩:=hT 5 168 rfl rfl
    obtain hS:=hS.flat2 hr2 hr5
    exact inNo rfl (opick rfl rfl (ev rfl hv2) (ev rfl hv5) (nSm rfl isI))
   refine stT rfl (fun hT hS=>?_) ?_
   ·obtain ⟨hv6,hr6⟩:=hT 6 169 rfl rfl
    obtain hS:=hS.flat1 hr6
    exact inNo rfl (omove rfl rfl (ev rfl hv6) (nSm rfl isI))
   refine stC rfl (fun _ _ _ _ _ ho hT hS _=>?_) ?_
   ·obtain ⟨hv7,hr7⟩:=hT 7 170 rfl rfl
    obtain hS:=hS.flat1 hr7
    exact .inl ⟨want_on (e:=170) rfl rfl rfl hv7,oL1 oneI hS 3 rfl rfl (ev rfl (ho 17 rfl)) rfl rfl ⟨_,_,rfl,isI,New.same _⟩⟩
   refine stC rfl (fun _ _ _ _ _ ho hT hS _=>?_) ?_
   ·obtain ⟨hv7,hr7⟩:=hT 7 170 rfl rfl
    obtain hS:=hS.flat1 hr7
    exact .inl ⟨want_on (e:=170) rfl rfl rfl hv7,oL1 ⟨Tryz.isAgg22,Tryz.sizeOf22⟩ hS 10 rfl rfl (ev rfl (ho 2 rfl)) rfl rfl ⟨_,_,rfl,isI,New.same _⟩⟩
   refine stT rfl (fun hT hS=>?_) ?_
   ·obtain ⟨hv7,hr7⟩:=hT 7 170 rfl rfl
    obtain ⟨hv9,hr9⟩:=hT 9 172 rfl rfl
    obtain hS:=hS.flat2 hr7 hr9
    exact .inl ⟨want_on (e:=170) rfl rfl rfl hv7,olen rfl rfl rfl Tryz.runUnderlying22 (p:=p) (k:=n) (m:=c) (ev rfl hv9) ⟨_,_,rfl,isI,New.same _⟩⟩
   refine stT rfl (fun hT hS=>?_) ?_
   ·obtain ⟨hv7,hr7⟩:=hT 7 170 rfl rfl
    obtain ⟨hv8,hr8⟩:=hT 8 171 rfl rfl
    obtain ⟨hv10,hr10⟩:=hT 10 173 rfl rfl
    obtain hS:=hS.flat3 hr7 hr8 hr10
    exact .inl ⟨want_on (e:=170) rfl rfl rfl hv7,obin rfl rfl (ev rfl hv8) (ev rfl hv10) (bLs (decide_eq_false (by omega))) ⟨_,_,rfl,isI,New.same _⟩⟩
   refine stT rfl (fun hT hS=>?_) ?_
   ·obtain ⟨hv7,hr7⟩:=hT 7 170 rfl rfl
    obtain ⟨hv11,hr11⟩:=hT 11 174 rfl rfl
    obtain hS:=hS.flat2 hr7 hr11
    exact inNo rfl (opick rfl rfl (ev rfl hv7) (ev rfl hv11) (nSm rfl isI))
   refine stT rfl (fun hT hS=>?_) ?_
   ·obtain ⟨hv12,hr12⟩:=hT 12 175 rfl rfl
    obtain hS:=hS.flat1 hr12
    exact inNo rfl (omove rfl rfl (ev rfl hv12) (nSm rfl isI))
   refine stT rfl (fun hT hS=>?_) ?_
   ·obtain ⟨hv13,hr13⟩:=hT 13 176 rfl rfl
    obtain hS:=hS.flat1 hr13
    exact .inr ⟨want_off (e:=176) (b':=false) rfl rfl rfl hv13 rfl,isI⟩
   refine stT rfl (fun hT hS=>?_) ?_
   ·obtain ⟨hv13,hr13⟩:=hT 13 176 rfl rfl
    obtain hS:=hS.flat1 hr13
    exact .inr ⟨want_off (e:=176) (b':=false) rfl rfl rfl hv13 rfl,isI⟩
   refine stT rfl (fun hT hS=>?_) ?_
   ·obtain ⟨hv13,hr13⟩:=hT 13 176 rfl rfl
    obtain hS:=hS.flat1 hr13
    exact .inr ⟨want_off (e:=176) (b':=false) rfl rfl rfl hv13 rfl,isI⟩
   refine stT rfl (fun hT hS=>?_) ?_
   ·obtain ⟨hv13,hr13⟩:=hT 13 176 rfl rfl
    obtain ⟨hv15,hr15⟩:=hT 15 178 rfl rfl
    obtain ⟨hv16,hr16⟩:=hT 16 179 rfl rfl
    obtain hS:=hS.flat3 hr13 hr15 hr16
    exact .inr ⟨want_off (e:=176) (b':=false) rfl rfl rfl hv13 rfl,isI⟩
   refine stT rfl (fun hT hS=>?_) ?_
   ·obtain ⟨hv13,hr13⟩:=hT 13 176 rfl rfl
    obtain ⟨hv17,hr17⟩:=hT 17 180 rfl rfl
    obtain hS:=hS.flat2 hr13 hr17
    exact .inr ⟨want_off (e:=176) (b':=false) rfl rfl rfl hv13 rfl,isI⟩
   refine stT rfl (fun hT hS=>?_) ?_
   ·obtain ⟨hv13,hr13⟩:=hT 13 176 rfl rfl
    obtain ⟨hv18,hr18⟩:=hT 18 181 rfl rfl
    obtain hS:=hS.flat2 hr13 hr18
    exact .inr ⟨want_off (e:=176) (b':=false) rfl rfl rfl hv13 rfl,isI⟩
   refine stT rfl (fun hT hS=>?_) ?_
   ·obtain ⟨hv13,hr13⟩:=hT 13 176 rfl rfl
    obtain hS:=hS.flat1 hr13
    exact .inr ⟨want_off (e:=176) (b':=false) rfl rfl rfl hv13 rfl,isI⟩
   refine stT rfl (fun hT hS=>?_) ?_
   ·obtain ⟨hv13,hr13⟩:=hT 13 176 rfl rfl
    obtain hS:=hS.flat1 hr13
    exact .inr ⟨want_off (e:=176) (b':=false) rfl rfl rfl hv13 rfl,isI⟩
   refine stT rfl (fun hT hS=>?_) ?_
   ·obtain ⟨hv13,hr13⟩:=hT 13 176 rfl rfl
    obtain ⟨hv20,hr20⟩:=hT 20 183 rfl rfl
    obtain ⟨hv21,hr21⟩:=hT 21 184 rfl rfl
    obtain hS:=hS.flat3 hr13 hr20 hr21
    exact .inr ⟨want_off (e:=176) (b':=false) rfl rfl rfl hv13 rfl,isI⟩
   refine stT rfl (fun hT hS=>?_) ?_
   ·obtain ⟨hv13,hr13⟩:=hT 13 176 rfl rfl
    obtain ⟨hv22,hr22⟩:=hT 22 185 rfl rfl
    obtain hS:=hS.flat2 hr13 hr22
    exact .inr ⟨want_off (e:=176) (b':=false) rfl rfl rfl hv13 rfl,isI⟩
   refine stT rfl (fun hT hS=>?_) ?_
   ·obtain ⟨hv13,hr13⟩:=hT 13 176 rfl rfl
    obtain ⟨hv23,hr23⟩:=hT 23 186 rfl rfl
    obtain hS:=hS.flat2 hr13 hr23
    exact .inr ⟨want_off (e:=176) (b':=false) rfl rfl rfl hv13 rfl,isI⟩
   refine stT rfl (fun hT hS=>?_) ?_
   ·obtain ⟨hv13,hr13⟩:=hT 13 176 rfl rfl
    obtain ⟨hv14,hr14⟩:=hT 14 177 rfl rfl
    obtain ⟨hv19,hr19⟩:=hT 19 182 rfl rfl
    obtain ⟨hv24,hr24⟩:=hT 24 187 rfl rfl
    obtain hS:=hS.flat4 hr13 hr14 hr19 hr24
    exact .inr ⟨want_off (e:=176) (b':=false) rfl rfl rfl hv13 rfl,isI⟩
   refine stT rfl (fun hT hS=>?_) ?_
   ·obtain ⟨hv13,hr13⟩:=hT 13 176 rfl rfl
    obtain ⟨hv25,hr25⟩:=hT 25 188 rfl rfl
    obtain hS:=hS.flat2 hr13 hr25
    exact .inr ⟨want_off (e:=176) (b':=false) rfl rfl rfl hv13 rfl,isI⟩
   refine stT rfl (fun hT hS=>?_) ?_
   ·obtain ⟨hv13,hr13⟩:=hT 13 176 rfl rfl
    obtain ⟨hv26,hr26⟩:=hT 26 189 rfl rfl
    obtain hS:=hS.flat2 hr13 hr26
    exact inNo rfl (opick rfl rfl (ev rfl hv13) evc (nSm rfl isI))
   exact sNi
  intro vs ρ w10 f' hf hT hS
  obtain ⟨hv0,hr0⟩:=hT 0 (by decide)
  obtain ⟨hv1,hr1⟩:=hT 1 (by decide)
  obtain ⟨hv2,hr2⟩:=hT 2 (by decide)
  obtain ⟨hv3,hr3⟩:=hT 3 (by decide)
  obtain ⟨hv4,hr4⟩:=hT 4 (by decide)
  obtain ⟨hv5,hr5⟩:=hT 5 (by decide)
  obtain ⟨hv6,hr6⟩:=hT 6 (by decide)
  obtain ⟨hv7,hr7⟩:=hT 7 (by decide)
  obtain ⟨hv8,hr8⟩:=hT 8 (by decide)
  obtain ⟨hv9,hr9⟩:=hT 9 (by decide)
  obtain ⟨hv10,hr10⟩:=hT 10 (by decide)
  obtain ⟨hv11,hr11⟩:=hT 11 (by decide)
  obtain ⟨hv12,hr12⟩:=hT 12 (by decide)
  obtain ⟨hv13,hr13⟩:=hT 13 (by decide)
  obtain ⟨hv14,hr14⟩:=hT 14 (by decide)
  obtain ⟨hv15,hr15⟩:=hT 15 (by decide)
  obtain ⟨hv16,hr16⟩:=hT 16 (by decide)
  obtain ⟨hv17,hr17⟩:=hT 17 (by decide)
  obtain ⟨hv18,hr18⟩:=hT 18 (by decide)
  obtain ⟨hv19,hr19⟩:=hT 19 (by decide)
  obtain ⟨hv20,hr20⟩:=hT 20 (by decide)
  obtain ⟨hv21,hr21⟩:=hT 21 (by decide)
  obtain ⟨hv22,hr22⟩:=hT 22 (by decide)
  obtain ⟨hv23,hr23⟩:=hT 23 (by decide)
  obtain ⟨hv24,hr24⟩:=hT 24 (by decide)
  obtain ⟨hv25,hr25⟩:=hT 25 (by decide)
  obtain ⟨hv26,hr26⟩:=hT 26 (by decide)
  obtain ⟨hv27,hr27⟩:=hT 27 (by decide)
  simp only [pool,if_true,hr0,hr1,hr2,hr3,hr4,hr5,hr6,hr7,hr8,hr9,hr10,hr11,hr12,hr13,hr14,hr15,hr16,hr17,hr18,hr19,hr20,hr21,hr22,hr23,hr24,hr25,hr26,hr27,List.nil_append,List.cons_append,List.append_nil] at hS
  simp only [layf,hv0,hv1,hv2,hv3,hv4,hv5,hv6,hv7,hv8,hv9,hv10,hv11,hv12,hv13,hv14,hv15,hv16,hv17,hv18,hv19,hv20,hv21,hv22,hv23,hv24,hv25,hv26,hv27] at hf
  subst hf; clear hT hv0 hv1 hv2 hv3 hv4 hv5 hv6 hv7 hv8 hv9 hv10 hv11 hv12 hv13 hv14 hv15 hv16 hv17 hv18 hv19 hv20 hv21 hv22 hv23 hv24 hv25 hv26 hv27 hr0 hr1 hr2 hr3 hr4 hr5 hr6 hr7 hr8 hr9 hr10 hr11 hr12 hr13 hr14 hr15 hr16 hr17 hr18 hr19 hr20 hr21 hr22 hr23 hr24 hr25 hr26 hr27
  refine idone rfl ?_
  refine tNo ?_
  refine kwF (ev rfl rfl) ?_
  refine wSk (blkN (tNo (wSq (wSq ?_))))
  refine kreg ?_
  refine kl rfl (oL1 oneI hS 9 rfl rfl (ev rfl rfl) rfl rfl ?_)
  refine knil ?_
  refine tNo ?_
  refine kreg ?_
  refine kl rfl (oAl [.int .i64 0] hS rfl rfl Tryz.zeroValue3 rfl ?_)
  clear hS; intro gR2 w11 hS
  refine kl rfl (oSt _ _ Tryz.sizeOf3 hS 0 rfl rfl (ev rfl rfl) (ev rfl rfl) rfl rfl rfl rfl rfl rfl ?_)
  clear hS; intro w12 hS
  refine knil ?_
  refine tNo ?_
  refine kreg ?_
  refine kl rfl (oL1 oneI hS 0 rfl rfl (ev rfl rfl) rfl rfl ?_)
  refine kl rfl (obin (z:=.int .i64 ((rd + 1:Nat):Int)) rfl rfl (ev rfl rfl) evc (bAd (wI6 (by omega) (by omega))) ?_)
  refine kl rfl (oSt _ _ Tryz.sizeOf3 hS 0 rfl rfl (ev rfl rfl) (ev rfl rfl) rfl rfl rfl rfl rfl rfl ?_)
  clear hS; intro w13 hS
  refine knil ?_
  refine tNo ?_
  exact ⟨(rd + 1),⟨_,_,_,kact_sets ⟨rfl,rfl,rfl,rfl,rfl,trivial⟩,hS.pick [1,0,2,3,11,12,13] (by decide) rfl,by omega,by rw [List.length_cons,hDs]⟩,by omega⟩
 refine kreg ?_
 refine kl rfl (oL1 oneI hS 1 rfl rfl (ev rfl rfl) rfl rfl ?_)
 refine kl rfl (obin rfl rfl (ev rfl rfl) evc (bLs (decide_eq_false (by omega))) ?_)
 refine knil ?_
 refine tNo ?_
 refine kwF (ev rfl rfl) ?_
 refine wEx ?_
 refine tEx ?_
 refine tEx ?_
 refine blkE ?_
 refine tNo (wSq ?_)
 obtain rfl:rd = 2:=by omega
 obtain ⟨D2,D1,rfl⟩:∃ a b,Ds = [a,b]:=by
  match Ds,hDs with
  | [a,b],_ => exact ⟨a,b,rfl⟩
 refine kreg ?_
 refine kl rfl (oCl rfl rfl Tryz.call14 rfl (wlawake6 (ht.at hS)) (args0 ) ?_)
 rintro _ w5 ⟨_,_,rfl,⟨rfl,rfl⟩,hN⟩
 refine ⟨_,rfl,?_⟩
 replace hS:=hS.news hN; clear hN
 refine kl rfl (oSt _ _ Tryz.sizeOf4 hS 6 rfl rfl (ev rfl rfl) (ev rfl rfl) rfl rfl rfl rfl rfl rfl ?_)
 clear hS; intro w6 hS
 refine knil ?_
 refine tNo ?_
 refine wLv ?_
 refine kret1 Tryz.results3 hS (fun w9 hS => (tellC1 (v:=.bool true) oneB hS 5 rfl rfl rfl)) (fun w9 hS => ?_)
 exact ⟨_,_,rfl,isI,hS.new0⟩
end Go.Proofs.YtjnpdpcldmjdjaaGreatDoor
