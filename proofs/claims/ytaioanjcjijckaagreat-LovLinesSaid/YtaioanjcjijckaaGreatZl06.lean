/- Package wide: made, times, and what is built on them. -/
import Derived.Deep.RegionHeld3
import Derived.Test.YtaioanjcjijckaaGreatZl02
set_option maxRecDepth 100000
set_option maxHeartbeats 1000000
set_option linter.unusedSimpArgs false
set_option linter.unusedVariables false
namespace Go.Proofs.YtaioanjcjijckaaGreat
open Go.RowKit
attribute [local go_sem] Zg
theorem Zts {w w' : World} {A : Option Addr} {n c : Nat} {l : List Nat} {neg : Bool} (h : Lim w A n c l) (hb : Below w.heap.size w w') (hs : val l < pw 4096) :
    ResW w (sg neg (val l)) (.returned (.tuple #[.agg #[.bool (neg && decide (0 < (digits (val l)).length)),.slice A (digits (val l)).length c],.int .i64 0])) w':=
 ⟨hb,_,_,_,_,_,rfl,.inl ⟨by rw [Zw];exact hs,rfl,(Wd.made h neg hs).below hb⟩⟩
theorem Za4 (neg : Bool) (A : Option Addr) (n c : Nat) (l : List Nat) (w : World) (h : Lim w A n c l) :
    Calls Tryz.prog 155 #[.bool neg,.slice A n c] w (ResW w (sg neg (val l))):=by
 have hk:=h.canon.2;have hnc:=h.2.1;have hcm:=h.2.2.1;unfold maxLen at hcm
 have HO : Hid (∀ w',Below w.heap.size w w' -> val l < pw 4096 -> ResW w (sg neg (val l)) (.returned (.tuple #[.agg #[.bool (neg && decide (0 < (digits (val l)).length)),.slice A (digits (val l)).length c],.int .i64 0])) w'):=
  fun w' hb hs=>Zts h hb hs
 have HB : Hid (∀ w',Below w.heap.size w w' -> pw 4096 <= val l -> ResW w (sg neg (val l)) (.returned (.tuple #[.agg #[.bool false,.slice none 0 0],.int .i64 16])) w'):=
  fun w' hb hs=>⟨hb,_,_,_,_,_,rfl,.inr ⟨by rw [Zw];exact hs,rfl,rfl,rfl,rfl,rfl⟩⟩
 have HI:=Za (Zl (val l) 4096);have HT:=Za (Zc0 A n c l)
 generalize hm : (digits (val l)).length = m at *
 clear hm
 by_cases h1 : m <= 4096
 ·by_cases h2 : 0 < m
  ·have e : (neg && decide (0 < m)) = neg:=by simp [h2]
   simp only [e] at HO;clear e
   have hd : decide (0 < m) = true:=by simpa using h2
   cases neg
   all_goals
    go_enter Tryz.func155,Tryz.ntmps155;go_wp2_with (go_at_call 149;refine (HT.out _ (h.alloc _)).mono ?_;rintro e w' ⟨rfl,rfl⟩);go_returns;exact HO.out _ ((Below.refl _ _).alloc (Nat.le_refl _) _) (HI.out.1 h1)
  ·obtain rfl : m = 0:=by omega
   have e : (neg && decide (0 < 0)) = false:=by simp
   simp only [e] at HO;clear e
   cases neg
   all_goals
    go_enter Tryz.func155,Tryz.ntmps155;go_wp2_with (go_at_call 149;refine (HT.out _ (h.alloc _)).mono ?_;rintro e w' ⟨rfl,rfl⟩);go_returns;exact HO.out _ ((Below.refl _ _).alloc (Nat.le_refl _) _) (HI.out.1 h1)
 ·have hp : pw 4096 <= val l:=by
    rcases Nat.lt_or_ge (val l) (pw 4096) with h' | h'
    ·exact absurd (HI.out.2 h') h1
    ·exact h'
  have HP:=Za hp;clear hp;go_enter Tryz.func155,Tryz.ntmps155;go_wp2_with (go_at_call 149;refine (HT.out _ (h.alloc _)).mono ?_;rintro e w' ⟨rfl,rfl⟩);go_returns;exact HB.out _ ((Below.refl _ _).alloc (Nat.le_refl _) _) HP.out
def Times1 (w : World) (a b : List Nat) (g i k carry : Nat) (wr : World) : Prop:=
 ∃ out,Blk wr g 147 (Zn out) /\ out.length = a.length + b.length /\ Lt32 out /\ (∀ j,i + b.length <= j -> out[j]?.getD 0 = 0) /\
  val out + pw (i + k) * carry = val (a.take i) * val b + pw i * (a[i]?.getD 0 * val (b.take k)) /\ carry < 4294967296 /\ Below w.heap.size w wr
theorem Times1.start (w : World) (a b : List Nat) : Times1 w a b w.heap.size 0 0 0 (w.alloc (.cells (Zn (List.replicate (a.length + b.length) 0)) 147)):=
 ⟨List.replicate _ 0,Blk.new _ _ _,by simp,Lt32.replicate _,fun j _=>Zcq _ _,by simp [Zcv,val],by omega,(Below.refl _ _).alloc (Nat.le_refl _) _⟩
theorem Times1.step {w wr : World} {a b out : List Nat} {i k carry s q : Nat} (hblk : Blk wr w.heap.size 147 (Zn out)) (hlen : out.length = a.length + b.length) (hlt : Lt32 out) (hz : ∀ j,i + b.length <= j -> out[j]?.getD 0 = 0)
    (hI : val out + pw (i + k) * carry = val (a.take i) * val b + pw i * (a[i]?.getD 0 * val (b.take k))) (hc : carry < 4294967296) (hB : Below w.heap.size w wr) (hi : i < a.length) (hk : k < b.length)
    (ha : Lt32 a) (hb : Lt32 b) (hs : s < 4294967296) (he : s + 4294967296 * q = carry + a[i]?.getD 0 * b[k]?.getD 0 + out[i + k]?.getD 0) :
    Times1 w a b w.heap.size i (k + 1) q (wr.setCell ⟨w.heap.size,i + k,none⟩ (limb s)):=
 ⟨out.set (i + k) s,by rw [<- Za0];exact hblk.set_ _ _,by rw [List.length_set];exact hlen,hlt.set _ hs,fun j hj=>by rw [getD_set_ne _ (by omega)];exact hz j (by omega),
  Zoz (by omega) hI he,Zs7 (ha.get i) (hb.get k) (hlt.get _) hc he,hB.setCell (p:=⟨w.heap.size,i + k,none⟩) (Nat.le_refl _) _⟩
theorem Times1.row {w wr : World} {a b : List Nat} {i carry : Nat} (h : Times1 w a b w.heap.size i b.length carry wr) (hi : i < a.length) :
    Times1 w a b w.heap.size (i + 1) 0 0 (wr.setCell ⟨w.heap.size,i + b.length,none⟩ (limb carry)):=by
 obtain ⟨out,hblk,hlen,hlt,hz,hI,hc,hB⟩:=h;rw [List.take_length] at hI;refine ⟨out.set (i + b.length) carry,by rw [<- Za0];exact hblk.set_ _ _,by rw [List.length_set];exact hlen,hlt.set _ hc,fun j hj=>by rw [getD_set_ne _ (by omega)];exact hz j (by omega),?_,by omega,hB.setCell (p:=⟨w.heap.size,i + b.length,none⟩) (Nat.le_refl _) _⟩;have:=Zq3 (by omega) (hz _ (Nat.le_refl _)) hI
 simp [val,this]
theorem Times1.stop {w wr : World} {a b : List Nat} {carry : Nat} (h : Times1 w a b w.heap.size a.length 0 carry wr) (hn : a.length + b.length <= maxLen) (h0 : carry = 0) :
    OutL w (fun l=>l.length = a.length + b.length /\ val l = val a * val b) (.returned (.slice (some ⟨w.heap.size,0,none⟩) (a.length + b.length) (a.length + b.length))) wr:=by
 obtain ⟨out,hblk,hlen,hlt,-,hI,-,hB⟩:=h;have hL:=Lim.of_blk hblk hlt (by omega);rw [hlen] at hL;refine ⟨_,_,_,_,rfl,hL,⟨hlen,?_⟩,hB⟩;subst h0
 simpa [val] using hI
theorem Zrs (A B : Option Addr) (n c m d : Nat) (a b : List Nat) (w : World) (ha : Lim w A n c a) (hb : Lim w B m d b) (hn : n <= 1000000000) (hm : m <= 1000000000) :
    Calls Tryz.prog 220 #[.slice A n c,.slice B m d] w (OutL w fun l=>l.length = n + m /\ val l = val a * val b):=by
 obtain ⟨i0,hi,hz0,hz1,hz2⟩:=info_parts Zbw;have hmk:=Zdx (P:=Tryz.prog) 25 147 Tryz.underlying25 hi hz0 hz1 hz2 ((n : Int) + m) (n + m) (by omega) (by omega);have hnc:=ha.2.1;have hmd:=hb.2.1;have hcm:=ha.2.2.1;have hdm:=hb.2.2.1;unfold maxLen at hcm hdm;have hal:=Za ha.len;have hbl:=Za hb.len;go_enter Tryz.func220,Tryz.ntmps220
 go_wp2
 go_loopw [19] (fun iv wr=>∃ i : Nat,i <= n /\ iv = .int .i64 i /\ Times1 w a b w.heap.size i 0 0 wr) (fun iv _=>n - (intOf iv).toNat)
 case atStart=>exact ⟨0,Nat.zero_le _,rfl,by have:=Times1.start w a b;rw [ha.len,hb.len] at this;exact this⟩
 case round =>
  obtain ⟨i,hi1,rfl,hP⟩:=hrel
  by_cases hlt1 : i < n
  ·have hB0 : Below w.heap.size w wr:=by obtain ⟨out,h1,h2,h3,h4,h5,h6,h7⟩:=hP;exact h7
   obtain ⟨ba,oa,rfl,hca⟩:=(ha.below hB0).at_ hlt1;have hxa:=ha.lt.get i;obtain ⟨wo,rfl⟩ : ∃ wo : World,wo = wr:=⟨_,rfl⟩
   go_wp2
   go_loopw [8,26] (fun cv kv wr=>∃ k carry : Nat,k <= m /\ cv = .int .u64 carry /\ kv = .int .i64 k /\ Times1 w a b w.heap.size i k carry wr) (fun _ kv _=>m - (intOf kv).toNat)
   case atStart=>exact ⟨0,0,Nat.zero_le _,rfl,rfl,hP⟩
   case round =>
    obtain ⟨k,carry,hk,rfl,rfl,hP⟩:=hrel
    by_cases hlt2 : k < m
    ·obtain ⟨out,hblk,hlen,hlt,hz,hI,hcy,hB⟩:=hP
     have hz:=Za hz;have hI:=Za hI;have hlen:=Za hlen;have hsz:=hblk.lt;obtain ⟨bb,ob,rfl,hcb⟩:=(hb.below hB).at_ hlt2;have hxb:=hb.lt.get k;have hcg:=hblk.cell (i + k);rw [Z7 out (i + k) (by rw [hlen.out,hal.out,hbl.out];omega)] at hcg;have hxo:=hlt.get (i + k);have hfg:=hblk.frozen (i + k)
     go_wp2
     go_roundw
     case rel =>
      rw [Zp6 hcy hxa hxb hxo,Zjf,Zi7];exact ⟨k + 1,_,by omega,rfl,by go_num,Times1.step hblk hlen.out hlt hz.out hI.out hcy hB (by rw [hal.out];exact hlt1) (by rw [hbl.out];exact hlt2) ha.lt hb.lt (Nat.mod_lt _ (by decide)) (by omega)⟩
     case measure=>simp [intOf];omega
    ·obtain rfl : k = m:=by omega
     have HR : Hid (Times1 w a b w.heap.size (i + 1) 0 0 (wr.setCell ⟨w.heap.size,i + k,none⟩ (limb carry))):=by
      rw [<- hbl.out] at hP ⊢;exact hP.row (by rw [hal.out];exact hlt1)
     obtain ⟨out,hblk,hlen,hlt,hz,hI,hcy,hB⟩:=hP;have hsz:=hblk.lt;have hcg:=hblk.cell (i + k);rw [Z7 out (i + k) (by rw [hlen,hal.out,hbl.out];omega)] at hcg;have hfg:=hblk.frozen (i + k);clear hz hI hlen hblk
     go_wp2
     go_roundw
     case rel=>exact ⟨i + 1,by omega,by go_num,HR.out⟩
     case measure=>simp [intOf];omega
  ·obtain rfl : i = n:=by omega
   have HF : Hid (OutL w (fun l=>l.length = i + m /\ val l = val a * val b) (.returned (.slice (some ⟨w.heap.size,0,none⟩) (i + m) (i + m))) wr):=by
    rw [<- hbl.out];have h1:=hal.out;subst h1;exact Times1.stop hP (by rw [hbl.out];unfold maxLen;omega) rfl
   clear hP
   go_wp2
   go_ret;exact HF.out
def Zet (b : Bool) : Int:=if b then 0 else 8
theorem Zhf (A : Option Addr) (n c : Nat) (es : List WE) (w : World) (h : WL w A n c es) :
    Calls Tryz.prog 147 #[.slice A n c] w fun e w'=>e = .returned (.int .i64 (Zet (es.all WE.ok))) /\ Below w.heap.size w w':=by
 have hnc:=h.2.1;have hcm:=h.2.2.1;unfold maxLen at hcm;go_enter Tryz.func147,Tryz.ntmps147
 go_wp2
 go_loopw [8] (fun v wr=>∃ k : Nat,k <= n /\ v = .int .i64 k /\ Hid (∀ e ∈ es.take k,e.ok = true) /\ Below w.heap.size w wr) (fun v _=>n - (intOf v).toNat)
 case atStart=>exact ⟨0,Nat.zero_le _,rfl,by unfold Hid;simp,Below.refl _ _⟩
 case round =>
  obtain ⟨k,hk,rfl,ho,hB⟩:=hrel
  by_cases hk0 : k < n
  ·obtain ⟨b,o,e,rfl,he,hc1,hc2,hL⟩:=(h.below hB).at_ hk0
   have hle:=hL.2.1;have hem:=hL.2.2.1;unfold maxLen at hem;have HE:=Za he;have HLen:=Za hL.len
   have hgood : Hid (e.ok = true -> ∀ x ∈ es.take (k + 1),x.ok = true):=fun hok x hx=>by
    rw [List.take_add_one,HE.out] at hx
    rcases List.mem_append.1 hx with hx | hx
    ·exact ho.out x hx
    ·simp at hx;subst hx;exact hok
   have hbad : Hid (e.ok = false -> Ending.returned (.int .i64 8) = .returned (.int .i64 (Zet (es.all WE.ok)))):=fun hok=>by
    have : es.all WE.ok = false:=by
     rw [List.all_eq_false];exact ⟨e,List.mem_of_getElem? HE.out,by simp [hok]⟩
    rw [this];rfl
   obtain ⟨neg,A1,n1,c1,l1⟩:=e;dsimp only at hc1 hc2 hL hle hem HLen;clear he
   by_cases t1 : n1 <= 4096
   ·by_cases t2 : 0 < n1
    ·obtain ⟨b1,o1,rfl,hx⟩:=hL.at_ (k:=n1 - 1) (by omega)
     have hb1:=Zs hx
     by_cases t3 : l1[n1 - 1]?.getD 0 = 0
     ·have hx3 : (((l1[n1-1]?.getD 0 : Nat) : Int) == 0) = true:=by simp [t3]
      have H8:=Za (hbad.out (Zn8 (by rw [HLen.out];exact t2) (by rw [HLen.out];exact t3)));clear t3 hL
      go_wp2
      go_ret;exact ⟨H8.out,hB.alloc hB.size _⟩
     ·have hx3 : (((l1[n1-1]?.getD 0 : Nat) : Int) == 0) = false:=by simpa using t3
      have HG:=Za (hgood.out (Ztd (by rw [HLen.out];exact t2) (by rw [HLen.out];exact t1) (by rw [HLen.out];exact t3)))
      have hd1 : ((n1 : Int) == 0) = false:=by simp;omega
      clear t3 hL
      cases neg
      all_goals
       go_wp2
       go_roundw
       case rel=>exact ⟨k + 1,by omega,by go_num,HG,hB.alloc hB.size _⟩
       case measure=>simp [intOf];omega
    ·obtain rfl : n1 = 0:=by omega
     cases neg
     ·have HG:=Za (hgood.out (by unfold WE.ok;rw [Zle HLen.out];rfl))
      clear hL
      go_wp2
      go_roundw
      case rel=>exact ⟨k + 1,by omega,by go_num,HG,hB.alloc hB.size _⟩
      case measure=>simp [intOf];omega
     ·have H8:=Za (hbad.out (by unfold WE.ok;rw [Zle HLen.out];rfl))
      clear hL
      go_wp2
      go_ret;exact ⟨H8.out,hB.alloc hB.size _⟩
   ·have H8:=Za (hbad.out (Zp4 (by rw [HLen.out];omega)))
    clear hL
    go_wp2
    go_ret;exact ⟨H8.out,hB.alloc hB.size _⟩
  ·obtain rfl : k = n:=by omega
   have HA : Hid (es.all WE.ok = true):=by
    unfold Hid;rw [List.all_eq_true];have:=ho.out;rw [List.take_of_length_le (by rw [h.len];exact Nat.le_refl _)] at this;exact this
   go_wp2
   go_ret;exact ⟨by rw [HA.out];rfl,hB⟩
theorem Zbs {A : Option Addr} {n c : Nat} {es : List WE} {w : World} (h : WL w A n c es) (hk : es.all WE.ok = true) :
    Calls Tryz.prog 147 #[.slice A n c] w fun e w'=>e = .returned (.int .i64 0) /\ Below w.heap.size w w':=
 (Zhf A n c es w h).mono fun _ _ ⟨he,hb⟩=>⟨by rw [he,hk];rfl,hb⟩
theorem Zqm {A : Option Addr} {n c : Nat} {es : List WE} {w : World} (h : WL w A n c es) (hk : es.all WE.ok = false) :
    Calls Tryz.prog 147 #[.slice A n c] w fun e w'=>e = .returned (.int .i64 8) /\ Below w.heap.size w w':=
 (Zhf A n c es w h).mono fun _ _ ⟨he,hb⟩=>⟨by rw [he,hk];rfl,hb⟩
theorem Zks (neg : Bool) (A : Option Addr) (n c : Nat) (l : List Nat) (w : World) (h : Lim w A n c l) :
    Calls Tryz.prog 188 #[.agg #[.bool neg,.slice A n c]] w fun e w'=>e = .returned (.int .i64 (Zet (okW neg l))) /\ Below w.heap.size w w':=by
 have hW : ∀ X t,WL ((w.alloc X).alloc (.cells #[.bool neg,.slice A n c] t)) (some ⟨w.heap.size + 1,0,none⟩) 1 1 [⟨neg,A,n,c,l⟩]:=fun X t=>by
  have:=WL.one (neg:=neg) (h.alloc X) t;rw [World.size_alloc] at this;exact this
 have hW:=Za hW;go_enter Tryz.func188,Tryz.ntmps188;go_wp2_with (go_at_call 147;refine (Zhf _ _ _ _ _ (hW.out _ _)).mono ?_;rintro e w1 ⟨rfl,hb⟩);go_ret;exact ⟨by simp [WE.ok],((Below.refl _ _).alloc (Nat.le_refl _) _).alloc (by simp) _ |>.trans (hb.mono (by simp;omega))⟩
theorem Zew {va vb : Nat} : (0 <= Za8 (digits va) (digits vb)) ↔ vb <= va:=by
 unfold Za8;rw [Zf,Zf]
 split
 ·rename_i h
  have:=(Zl va ((digits vb).length - 1)).1 (by omega);have h2:=Zc5 (n:=vb) (k:=(digits vb).length - 1) (by omega)
  constructor <;> intro <;> omega
 ·split
  ·rename_i h
   have:=(Zl vb ((digits va).length - 1)).1 (by omega);have h2:=Zc5 (n:=va) (k:=(digits va).length - 1) (by omega)
   constructor <;> intro <;> omega
  ·split
   ·constructor <;> intro <;> omega
   ·split <;> constructor <;> intro <;> omega
theorem Zho (s : Bool) (a b : Nat) : sg s (a + b) = sg s a + sg s b:=by unfold sg;split <;> omega
theorem Zdp {s t : Bool} (h : s ≠ t) {a b d : Nat} (hd : d + b = a) : sg s d = sg s a + sg t b:=by
 cases s <;> cases t <;> simp_all [sg] <;> omega
end Go.Proofs.YtaioanjcjijckaaGreat
