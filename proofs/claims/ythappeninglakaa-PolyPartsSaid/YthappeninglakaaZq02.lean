/- Package wide: check, Check. The reference of layer 1: -/
import Derived.Deep.RegionHeld3
import Derived.BigQuiet
import Derived.Deep.QuietTactic
import Derived.Deep.DeepFit
import Derived.Test.YthappeninglakaaZq01
set_option maxRecDepth 100000
set_option maxHeartbeats 1000000
set_option linter.unusedSimpArgs false
set_option linter.unusedVariables false
namespace Go.Proofs.Ythappeninglakaa
open Go.RowKit
attribute [local go_sem] Zj
def Zbg (b : Bool) : Int:=if b then 0 else 8
theorem Zln (A : Option Addr) (n c : Nat) (es : List WE) (w : World) (h : WL w A n c es) :
    Calls Try.prog 45 #[.slice A n c] w fun e w'=>e = .returned (.int .i64 (Zbg (es.all WE.ok))) /\ Below w.heap.size w w':=by
 have hnc:=h.2.1;have hcm:=h.2.2.1;unfold maxLen at hcm;go_enter Try.func45,Try.ntmps45
 go_wp2
 go_loopw [8] (fun v wr=>∃ k : Nat,k <= n /\ v = .int .i64 k /\ Hid (∀ e ∈ es.take k,e.ok = true) /\ Below w.heap.size w wr) (fun v _=>n - (intOf v).toNat)
 case atStart=>exact ⟨0,Nat.zero_le _,rfl,by unfold Hid;simp,Below.refl _ _⟩
 case round =>
  obtain ⟨k,hk,rfl,ho,hB⟩:=hrel
  by_cases hk0 : k < n
  ·obtain ⟨b,o,e,rfl,he,hc1,hc2,hL⟩:=(h.below hB).at_ hk0
   have hle:=hL.2.1;have hem:=hL.2.2.1;unfold maxLen at hem;have HE:=Zb he;have HLen:=Zb hL.len
   have hgood : Hid (e.ok = true -> ∀ x ∈ es.take (k + 1),x.ok = true):=fun hok x hx=>by
    rw [List.take_add_one,HE.out] at hx
    rcases List.mem_append.1 hx with hx | hx
    ·exact ho.out x hx
    ·simp at hx;subst hx;exact hok
   have hbad : Hid (e.ok = false -> Ending.returned (.int .i64 8) = .returned (.int .i64 (Zbg (es.all WE.ok)))):=fun hok=>by
    have : es.all WE.ok = false:=by
     rw [List.all_eq_false];exact ⟨e,List.mem_of_getElem? HE.out,by simp [hok]⟩
    rw [this];rfl
   obtain ⟨neg,A1,n1,c1,l1⟩:=e;dsimp only at hc1 hc2 hL hle hem HLen;clear he
   by_cases t1 : n1 <= 4096
   ·by_cases t2 : 0 < n1
    ·obtain ⟨b1,o1,rfl,hx⟩:=hL.at_ (k:=n1 - 1) (by omega)
     have hb1:=Zn hx
     by_cases t3 : l1[n1 - 1]?.getD 0 = 0
     ·have hx3 : (((l1[n1-1]?.getD 0 : Nat) : Int) == 0) = true:=by simp [t3]
      have H8:=Zb (hbad.out (Zoi (by rw [HLen.out];exact t2) (by rw [HLen.out];exact t3)));clear t3 hL
      go_wp2
      go_ret;exact ⟨H8.out,hB.alloc hB.size _⟩
     ·have hx3 : (((l1[n1-1]?.getD 0 : Nat) : Int) == 0) = false:=by simpa using t3
      have HG:=Zb (hgood.out (Ztm (by rw [HLen.out];exact t2) (by rw [HLen.out];exact t1) (by rw [HLen.out];exact t3)))
      have hd1 : ((n1 : Int) == 0) = false:=by simp;omega
      clear t3 hL
      cases neg
      all_goals
       go_wp2
       go_roundw
       case rel=>exact ⟨k + 1,by omega,by go_num,HG,hB.alloc hB.size _⟩
       case measure=>simp [intOf];omega
    ·obtain rfl : n1 = 0:=by omega
     cases neg
     ·have HG:=Zb (hgood.out (by unfold WE.ok;rw [Zmb HLen.out];rfl))
      clear hL
      go_wp2
      go_roundw
      case rel=>exact ⟨k + 1,by omega,by go_num,HG,hB.alloc hB.size _⟩
      case measure=>simp [intOf];omega
     ·have H8:=Zb (hbad.out (by unfold WE.ok;rw [Zmb HLen.out];rfl))
      clear hL
      go_wp2
      go_ret;exact ⟨H8.out,hB.alloc hB.size _⟩
   ·have H8:=Zb (hbad.out (Zpw (by rw [HLen.out];omega)))
    clear hL
    go_wp2
    go_ret;exact ⟨H8.out,hB.alloc hB.size _⟩
  ·obtain rfl : k = n:=by omega
   have HA : Hid (es.all WE.ok = true):=by
    unfold Hid;rw [List.all_eq_true];have:=ho.out;rw [List.take_of_length_le (by rw [h.len];exact Nat.le_refl _)] at this;exact this
   go_wp2
   go_ret;exact ⟨by rw [HA.out];rfl,hB⟩
theorem Zdl {A : Option Addr} {n c : Nat} {es : List WE} {w : World} (h : WL w A n c es) (hk : es.all WE.ok = true) :
    Calls Try.prog 45 #[.slice A n c] w fun e w'=>e = .returned (.int .i64 0) /\ Below w.heap.size w w':=
 (Zln A n c es w h).mono fun _ _ ⟨he,hb⟩=>⟨by rw [he,hk];rfl,hb⟩
theorem Zqv (neg : Bool) (A : Option Addr) (n c : Nat) (l : List Nat) (w : World) (h : Lim w A n c l) :
    Calls Try.prog 24 #[.agg #[.bool neg,.slice A n c]] w fun e w'=>e = .returned (.int .i64 (Zbg (okW neg l))) /\ Below w.heap.size w w':=by
 have hW : ∀ X t,WL ((w.alloc X).alloc (.cells #[.bool neg,.slice A n c] t)) (some ⟨w.heap.size + 1,0,none⟩) 1 1 [⟨neg,A,n,c,l⟩]:=fun X t=>by
  have:=WL.one (neg:=neg) (h.alloc X) t;rw [World.size_alloc] at this;exact this
 have hW:=Zb hW;go_enter Try.func24,Try.ntmps24;go_wp2_with (go_at_call 45;refine (Zln _ _ _ _ _ (hW.out _ _)).mono ?_;rintro e w1 ⟨rfl,hb⟩);go_ret;exact ⟨by simp [WE.ok],((Below.refl _ _).alloc (Nat.le_refl _) _).alloc (by simp) _ |>.trans (hb.mono (by simp;omega))⟩
theorem Zfq {va vb : Nat} : (0 <= Zce (digits va) (digits vb)) ↔ vb <= va:=by
 unfold Zce;rw [Zg,Zg]
 split
 ·rename_i h
  have:=(Zs va ((digits vb).length - 1)).1 (by omega);have h2:=Zfn (n:=vb) (k:=(digits vb).length - 1) (by omega)
  constructor <;> intro <;> omega
 ·split
  ·rename_i h
   have:=(Zs vb ((digits va).length - 1)).1 (by omega);have h2:=Zfn (n:=va) (k:=(digits va).length - 1) (by omega)
   constructor <;> intro <;> omega
  ·split
   ·constructor <;> intro <;> omega
   ·split <;> constructor <;> intro <;> omega
theorem Ziq (s : Bool) (a b : Nat) : sg s (a + b) = sg s a + sg s b:=by unfold sg;split <;> omega
theorem Zeh {s t : Bool} (h : s ≠ t) {a b d : Nat} (hd : d + b = a) : sg s d = sg s a + sg t b:=by
 cases s <;> cases t <;> simp_all [sg] <;> omega
theorem Zff (neg : Bool) (A : Option Addr) (n c : Nat) (l : List Nat) (w : World) (h : Lim w A n c l) :
    Calls Try.prog 40 #[.agg #[.bool neg,.slice A n c]] w fun e w'=>e = .returned (.int .i64 (Zbg (okW neg l))) /\ Below w.heap.size w w':=by
 have hnc:=h.2.1;have hcm:=h.2.2.1;unfold maxLen at hcm;have HLen:=Zb h.len
 by_cases t1 : n <= 4096
 ·by_cases t2 : 0 < n
  ·obtain ⟨b1,o1,rfl,hx⟩:=h.at_ (k:=n - 1) (by omega)
   have hb1:=Zn hx
   have hd1 : ((n : Int) == 0) = false:=by simp;omega
   by_cases t3 : l[n - 1]?.getD 0 = 0
   ·have hx3 : (((l[n-1]?.getD 0 : Nat) : Int) == 0) = true:=by simp [t3]
    rw [Zoi (by rw [HLen.out];exact t2) (by rw [HLen.out];exact t3)];clear t3 h;go_enter Try.func40,Try.ntmps40
    go_wp2
    go_ret;exact ⟨rfl,(Below.refl _ _).alloc (Nat.le_refl _) _⟩
   ·have hx3 : (((l[n-1]?.getD 0 : Nat) : Int) == 0) = false:=by simpa using t3
    rw [Ztm (by rw [HLen.out];exact t2) (by rw [HLen.out];exact t1) (by rw [HLen.out];exact t3)];clear t3 h
    cases neg
    all_goals
     go_enter Try.func40,Try.ntmps40
     go_wp2
     go_ret;exact ⟨rfl,(Below.refl _ _).alloc (Nat.le_refl _) _⟩
  ·obtain rfl : n = 0:=by omega
   rw [Zmb HLen.out];clear h
   cases neg
   all_goals
    go_enter Try.func40,Try.ntmps40
    go_wp2
    go_ret;exact ⟨rfl,(Below.refl _ _).alloc (Nat.le_refl _) _⟩
 ·rw [Zpw (by rw [HLen.out];omega)]
  clear h;go_enter Try.func40,Try.ntmps40
  go_wp2
  go_ret;exact ⟨rfl,(Below.refl _ _).alloc (Nat.le_refl _) _⟩
theorem Zdc (A : Option Addr) (n c : Nat) (l : List Nat) (w : World) (h : Lim w A n c l) (hn9 : n <= 1000000000) :
    Calls Try.prog 82 #[.slice A n c] w (OutL w fun l'=>l' = digits (val l)):=by
 obtain ⟨i0,hi,hz0,hz1,hz2⟩:=info_parts Zcl;have hn:=h.2.1;have hm:=h.2.2.1;unfold maxLen at hm;go_enter Try.func82,Try.ntmps82
 go_wp2
 go_loop [3] (fun v=>∃ k : Nat,k <= n /\ v = .int .i64 k /\ Hid (∀ j,k <= j -> l[j]?.getD 0 = 0)) (fun v=>(intOf v).toNat)
 case atStart=>exact ⟨n,Nat.le_refl _,rfl,fun j hj=>by rw [List.getElem?_eq_none (by rw [h.len];exact hj)];rfl⟩
 case round =>
  obtain ⟨k,hk,rfl,hz⟩:=hrel
  by_cases hk0 : 0 < k
  ·obtain ⟨b,o,rfl,hcell⟩:=h.at_ (k:=k - 1) (by omega)
   by_cases hx : l[k-1]?.getD 0 = 0
   ·have hb : (((l[k-1]?.getD 0 : Nat) : Int) == 0) = true:=by simp [hx]
    clear h;have hx:=Zb hx
    go_wp2
    go_round
    case rel=>exact ⟨k - 1,by omega,by go_num,fun j hj=>by
        rcases Nat.lt_or_ge j k with h' | h'
        ·obtain rfl : j = k - 1:=by omega
         exact hx.out
        ·exact hz.out j h'⟩
    case measure=>simp [intOf];omega
   ·have hb : (((l[k-1]?.getD 0 : Nat) : Int) == 0) = false:=by simpa using hx
    have HD:=Zb (Ze4 hz.out (Or.inr hx) h.lt);clear hx;go_wp2_with (at_builtin;refine Zq _ rfl (.tmp 18) (.tmp 21) 24 rfl w.heap.size 71 i0 _ 1 4 Try.underlying24 hi hz0 hz1 hz2 rfl (by omega) (.slice (some ⟨w.heap.size,0,none⟩) 0 0) 0 [] rfl (Zgr _ _ _) _ _ k c ((l.take k).map limb) rfl (by exact ((h.take hk).alloc _).reads) (Zcq _) (by simp only [maxLen];omega) (by omega) (by simp) ?_;intro v1 w1 hown1 hg1 hat1);go_ret;exact OutL.of_append hown1 (by rw [List.length_take,h.len];omega) (h.lt.take _) ((Below.refl _ _).alloc (Nat.le_refl _) _) hg1 (fun j hj=>by simp [Value.ownBlock] at hj;omega) HD.out.symm
  ·obtain rfl : k = 0:=by omega
   have HD:=Zb (Ze4 hz.out (Or.inl rfl) h.lt);go_wp2_with (at_builtin;refine Zq _ rfl (.tmp 18) (.tmp 21) 24 rfl w.heap.size 71 i0 _ 1 4 Try.underlying24 hi hz0 hz1 hz2 rfl (by omega) (.slice (some ⟨w.heap.size,0,none⟩) 0 0) 0 [] rfl (Zgr _ _ _) _ _ 0 c ((l.take 0).map limb) rfl (by exact ((h.take hk).alloc _).reads) (Zcq _) (by simp only [maxLen];omega) (by omega) (by simp) ?_;intro v1 w1 hown1 hg1 hat1);go_ret;exact OutL.of_append hown1 (by rw [List.length_take,h.len];omega) (h.lt.take _) ((Below.refl _ _).alloc (Nat.le_refl _) _) hg1 (fun j hj=>by simp [Value.ownBlock] at hj;omega) HD.out.symm
theorem Zm {B : Nat} {w w' : World} (h : Below B w.drew w') : Below B w w':=⟨h.os,h.tape,h.output,h.size,h.block⟩
theorem Zpv (na nb : Bool) (A B : Option Addr) (n c m d : Nat) (va vb : Nat) (w : World) (ha : Lim w A n c (digits va)) (hb : Lim w B m d (digits vb)) (hn : n <= 4096) (hm : m <= 4096) :
    Calls Try.prog 55 #[.agg #[.bool na,.slice A n c],.agg #[.bool nb,.slice B m d]] w (ResW w (sg na va + sg nb vb)):=by
 obtain ⟨cv,hcv⟩ : ∃ x : Int,Zce (digits va) (digits vb) = x:=⟨_,rfl⟩;have HC:=Zb hcv
 have hge : 0 <= cv ↔ vb <= va:=by rw [<- hcv];exact Zfq
 have hge:=Zb hge
 by_cases hs : na = nb
 ·subst hs
  clear hcv
  have HZ : ∀ l : List Nat,val l = val (digits va) + val (digits vb) -> sg na (val l) = sg na va + sg na vb:=fun l h=>by rw [h,Zg,Zg,Ziq]
  go_enter Try.func55,Try.ntmps55;go_wp2_with (go_at_call 72;refine (Zc0 _ _ _ _ _ _ _ _ _ (((ha.alloc _).alloc _).alloc _) (((hb.alloc _).alloc _).alloc _)).mono ?_;rintro e w1 ⟨he1,hb1⟩;rw [HC.out] at he1;subst he1;obtain ⟨hc1,hf1⟩:=Zca hb1;have hz1 : w.heap.size + 1 + 1 < w1.heap.size:=by (have:=hb1.size;simp at this;omega));have hB1 : Below w.heap.size w w1:=(((((Below.refl w.heap.size w).alloc (Nat.le_refl _) _).alloc (by simp) _).alloc (by simp;omega) _).trans (hb1.mono (by simp;omega)));have ha1:=ha.below hB1;have hb1':=hb.below hB1
  have g0 : w1.cell? ⟨w.heap.size,0,none⟩ = some (.bool na):=by simp [hc1,go_sem]
  have g1 : w1.cell? ⟨w.heap.size,1,none⟩ = some (.slice A n c):=by simp [hc1,go_sem]
  have f0 : w1.cell? ⟨w.heap.size + 1,0,none⟩ = some (.bool na):=by simp [hc1,go_sem]
  have g2 : w1.cell? ⟨w.heap.size + 1,1,none⟩ = some (.slice B m d):=by simp [hc1,go_sem]
  have g7 : Blk w1 (w.heap.size + 1 + 1) 26 #[.bool false,.slice none 0 0]:=by
   refine Zd hb1 ?_;have:=Blk.new ((w.alloc (.cells #[.bool na,.slice A n c] 26)).alloc (.cells #[.bool na,.slice B m d] 26)) 26 #[.bool false,.slice none 0 0];simp only [World.size_alloc] at this;exact this
  have g3:=g7.cell 0;have g4:=g7.cell 1;have g5:=g7.frozen 0;have g6:=g7.frozen 1
  simp at g3 g4
  go_region_held3 (fun w'=>w'.cell? ⟨w.heap.size,0,none⟩ = some (.bool na) /\ w'.cell? ⟨w.heap.size,1,none⟩ = some (.slice A n c) /\ w'.cell? ⟨w.heap.size + 1,0,none⟩ = some (.bool na) /\ w'.cell? ⟨w.heap.size + 1,1,none⟩ = some (.slice B m d))
   (((try dsimp only);(repeat' apply And.intro);all_goals (first | go_keep | (simp [*,go_sem];done))))
   (first
    | (go_at_call 58;refine (Znu _ _ _ _ _ _ _ _ _ (by exact ha1) (by exact hb1') (by omega) (by omega)).mono ?_;rintro e w2 ⟨A2,n2,c2,l2,rfl,hL2,hP2,hb2⟩;have k0:=Za hb2 g0;have k1:=Za hb2 g1;have j0:=Za hb2 f0;have k2:=Za hb2 g2;have k3:=Za hb2 g3;have k4:=Za hb2 g4;have k5:=Zi hb2 g3 g5;have k6:=Zi hb2 g4 g6;have k7:=Zd hb2 g7)
    | (go_at_call 53;refine (Zbk _ _ _ _ _ _ (by exact hL2)).mono ?_;rintro e w3 ⟨hb3,neg3,A3,n3,c3,code3,rfl,hR3⟩;have m0:=Za hb3 k0;have m1:=Za hb3 k1;have i0:=Za hb3 j0;have m2:=Za hb3 k2;have m3:=Za hb3 k3;have m4:=Za hb3 k4;have m5:=Zi hb3 k3 k5;have m6:=Zi hb3 k4 k6;have m7:=Zd hb3 k7))
  have hB3 : Below w.heap.size w w3:=(hB1.trans ((Zm hb2).mono hB1.size)).trans (hb3.mono (Nat.le_trans hB1.size (Zm hb2).size))
  go_wp2
  refine bodyPost_ret (v:=.tuple #[.agg #[.bool neg3,.slice A3 n3 c3],.int .i64 code3]) (by simp [results,Try.results55,go_sem,m3,m4]) rfl ?_;exact ResW.box (HZ l2 hP2.2 ▸ hR3) hB3 (by omega) m7
 ·have hne : (na == nb) = false:=by simpa using hs
  by_cases hcc : 0 <= cv
  ·have hvl:=hge.out.1 hcc
   have HLE : Hid (m <= n):=by have:=Zy hvl;rw [ha.len,hb.len] at this;exact this
   have HVL : Hid (val (digits vb) <= val (digits va)):=by rw [Zg,Zg];exact hvl
   have HZ : ∀ l : List Nat,val l + val (digits vb) = val (digits va) -> sg na (val l) = sg na va + sg nb vb:=fun l h=>Zeh hs (by rw [Zg,Zg] at h;exact h)
   clear hcv hvl hs;go_enter Try.func55,Try.ntmps55;go_wp2_with (go_at_call 72;refine (Zc0 _ _ _ _ _ _ _ _ _ (((ha.alloc _).alloc _).alloc _) (((hb.alloc _).alloc _).alloc _)).mono ?_;rintro e w1 ⟨he1,hb1⟩;rw [HC.out] at he1;subst he1;obtain ⟨hc1,hf1⟩:=Zca hb1;have hz1 : w.heap.size + 1 + 1 < w1.heap.size:=by (have:=hb1.size;simp at this;omega));have hB1 : Below w.heap.size w w1:=(((((Below.refl w.heap.size w).alloc (Nat.le_refl _) _).alloc (by simp) _).alloc (by simp;omega) _).trans (hb1.mono (by simp;omega)));have ha1:=ha.below hB1;have hb1':=hb.below hB1
   have g0 : w1.cell? ⟨w.heap.size,0,none⟩ = some (.bool na):=by simp [hc1,go_sem]
   have g1 : w1.cell? ⟨w.heap.size,1,none⟩ = some (.slice A n c):=by simp [hc1,go_sem]
   have f0 : w1.cell? ⟨w.heap.size + 1,0,none⟩ = some (.bool nb):=by simp [hc1,go_sem]
   have g2 : w1.cell? ⟨w.heap.size + 1,1,none⟩ = some (.slice B m d):=by simp [hc1,go_sem]
   have g7 : Blk w1 (w.heap.size + 1 + 1) 26 #[.bool false,.slice none 0 0]:=by
    refine Zd hb1 ?_;have:=Blk.new ((w.alloc (.cells #[.bool na,.slice A n c] 26)).alloc (.cells #[.bool nb,.slice B m d] 26)) 26 #[.bool false,.slice none 0 0];simp only [World.size_alloc] at this;exact this
   have g3:=g7.cell 0;have g4:=g7.cell 1;have g5:=g7.frozen 0;have g6:=g7.frozen 1
   simp at g3 g4
   go_region_held3 (fun w'=>w'.cell? ⟨w.heap.size,0,none⟩ = some (.bool na) /\ w'.cell? ⟨w.heap.size,1,none⟩ = some (.slice A n c) /\ w'.cell? ⟨w.heap.size + 1,0,none⟩ = some (.bool nb) /\ w'.cell? ⟨w.heap.size + 1,1,none⟩ = some (.slice B m d))
    (((try dsimp only);(repeat' apply And.intro);all_goals (first | go_keep | (simp [*,go_sem];done))))
    (first
     | (go_at_call 59;refine (Zh6 _ _ _ _ _ _ _ _ _ (by exact ha1) (by exact hb1') HLE.out HVL.out (by omega)).mono ?_;rintro e w2 ⟨A2,n2,c2,l2,rfl,hL2,hP2,hb2⟩;have k0:=Za hb2 g0;have k1:=Za hb2 g1;have j0:=Za hb2 f0;have k2:=Za hb2 g2;have k3:=Za hb2 g3;have k4:=Za hb2 g4;have k5:=Zi hb2 g3 g5;have k6:=Zi hb2 g4 g6;have k7:=Zd hb2 g7)
     | (go_at_call 53;refine (Zbk _ _ _ _ _ _ (by exact hL2)).mono ?_;rintro e w3 ⟨hb3,neg3,A3,n3,c3,code3,rfl,hR3⟩;have m0:=Za hb3 k0;have m1:=Za hb3 k1;have i0:=Za hb3 j0;have m2:=Za hb3 k2;have m3:=Za hb3 k3;have m4:=Za hb3 k4;have m5:=Zi hb3 k3 k5;have m6:=Zi hb3 k4 k6;have m7:=Zd hb3 k7))
   have hB3 : Below w.heap.size w w3:=(hB1.trans ((Zm hb2).mono hB1.size)).trans (hb3.mono (Nat.le_trans hB1.size (Zm hb2).size))
   go_wp2
   refine bodyPost_ret (v:=.tuple #[.agg #[.bool neg3,.slice A3 n3 c3],.int .i64 code3]) (by simp [results,Try.results55,go_sem,m3,m4]) rfl ?_;exact ResW.box (HZ l2 hP2.2 ▸ hR3) hB3 (by omega) m7
  ·have hvl : va <= vb:=by
     rcases Nat.lt_or_ge vb va with h | h
     ·exact absurd (hge.out.2 (Nat.le_of_lt h)) hcc
     ·exact h
   have HLE : Hid (n <= m):=by have:=Zy hvl;rw [ha.len,hb.len] at this;exact this
   have HVL : Hid (val (digits va) <= val (digits vb)):=by rw [Zg,Zg];exact hvl
   have HZ : ∀ l : List Nat,val l + val (digits va) = val (digits vb) -> sg nb (val l) = sg na va + sg nb vb:=fun l h=>by rw [Int.add_comm];exact Zeh (Ne.symm hs) (by rw [Zg,Zg] at h;exact h)
   clear hcv hvl hs;go_enter Try.func55,Try.ntmps55;go_wp2_with (go_at_call 72;refine (Zc0 _ _ _ _ _ _ _ _ _ (((ha.alloc _).alloc _).alloc _) (((hb.alloc _).alloc _).alloc _)).mono ?_;rintro e w1 ⟨he1,hb1⟩;rw [HC.out] at he1;subst he1;obtain ⟨hc1,hf1⟩:=Zca hb1;have hz1 : w.heap.size + 1 + 1 < w1.heap.size:=by (have:=hb1.size;simp at this;omega));have hB1 : Below w.heap.size w w1:=(((((Below.refl w.heap.size w).alloc (Nat.le_refl _) _).alloc (by simp) _).alloc (by simp;omega) _).trans (hb1.mono (by simp;omega)));have ha1:=ha.below hB1;have hb1':=hb.below hB1
   have g0 : w1.cell? ⟨w.heap.size,0,none⟩ = some (.bool na):=by simp [hc1,go_sem]
   have g1 : w1.cell? ⟨w.heap.size,1,none⟩ = some (.slice A n c):=by simp [hc1,go_sem]
   have f0 : w1.cell? ⟨w.heap.size + 1,0,none⟩ = some (.bool nb):=by simp [hc1,go_sem]
   have g2 : w1.cell? ⟨w.heap.size + 1,1,none⟩ = some (.slice B m d):=by simp [hc1,go_sem]
   have g7 : Blk w1 (w.heap.size + 1 + 1) 26 #[.bool false,.slice none 0 0]:=by
    refine Zd hb1 ?_;have:=Blk.new ((w.alloc (.cells #[.bool na,.slice A n c] 26)).alloc (.cells #[.bool nb,.slice B m d] 26)) 26 #[.bool false,.slice none 0 0];simp only [World.size_alloc] at this;exact this
   have g3:=g7.cell 0;have g4:=g7.cell 1;have g5:=g7.frozen 0;have g6:=g7.frozen 1
   simp at g3 g4
   go_region_held3 (fun w'=>w'.cell? ⟨w.heap.size,0,none⟩ = some (.bool na) /\ w'.cell? ⟨w.heap.size,1,none⟩ = some (.slice A n c) /\ w'.cell? ⟨w.heap.size + 1,0,none⟩ = some (.bool nb) /\ w'.cell? ⟨w.heap.size + 1,1,none⟩ = some (.slice B m d))
    (((try dsimp only);(repeat' apply And.intro);all_goals (first | go_keep | (simp [*,go_sem];done))))
    (first
     | (go_at_call 59;refine (Zh6 _ _ _ _ _ _ _ _ _ (by exact hb1') (by exact ha1) HLE.out HVL.out (by omega)).mono ?_;rintro e w2 ⟨A2,n2,c2,l2,rfl,hL2,hP2,hb2⟩;have k0:=Za hb2 g0;have k1:=Za hb2 g1;have j0:=Za hb2 f0;have k2:=Za hb2 g2;have k3:=Za hb2 g3;have k4:=Za hb2 g4;have k5:=Zi hb2 g3 g5;have k6:=Zi hb2 g4 g6;have k7:=Zd hb2 g7)
     | (go_at_call 53;refine (Zbk _ _ _ _ _ _ (by exact hL2)).mono ?_;rintro e w3 ⟨hb3,neg3,A3,n3,c3,code3,rfl,hR3⟩;have m0:=Za hb3 k0;have m1:=Za hb3 k1;have i0:=Za hb3 j0;have m2:=Za hb3 k2;have m3:=Za hb3 k3;have m4:=Za hb3 k4;have m5:=Zi hb3 k3 k5;have m6:=Zi hb3 k4 k6;have m7:=Zd hb3 k7))
   have hB3 : Below w.heap.size w w3:=(hB1.trans ((Zm hb2).mono hB1.size)).trans (hb3.mono (Nat.le_trans hB1.size (Zm hb2).size))
   go_wp2
   refine bodyPost_ret (v:=.tuple #[.agg #[.bool neg3,.slice A3 n3 c3],.int .i64 code3]) (by simp [results,Try.results55,go_sem,m3,m4]) rfl ?_;exact ResW.box (HZ l2 hP2.2 ▸ hR3) hB3 (by omega) m7
theorem Zpi (s : Bool) (v : Nat) : sg (!s) v = - sg s v:=by cases s <;> simp [sg]
theorem Ztt (s t : Bool) (a b : Nat) : sg (s != t) (a * b) = sg s a * sg t b:=by cases s <;> cases t <;> simp [sg,Int.neg_mul,Int.mul_neg]
end Go.Proofs.Ythappeninglakaa
