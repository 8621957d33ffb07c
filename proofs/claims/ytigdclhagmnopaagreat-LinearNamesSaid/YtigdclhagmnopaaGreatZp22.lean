/- Systems of observations in memory: lists of int64, and -/
import Derived.Test.YtigdclhagmnopaaGreatZp20
import Derived.Test.YtigdclhagmnopaaGreatZp21
set_option maxRecDepth 100000
set_option maxHeartbeats 4000000
set_option linter.unusedSimpArgs false
set_option linter.unusedVariables false
namespace Go.Proofs.YtigdclhagmnopaaGreat
open Go.RowKit
attribute [local go_sem] Zh
structure RI where
 A : Option Addr
 n : Nat
 c : Nat
 l : List Int
def MIL (w : World) (A : Option Addr) (n c : Nat) (rs : List RI) : Prop:=
 rs.length = n /\ n <= c /\ c <= maxLen /\ (∀ r ∈ rs,LimI w r.A r.n r.c r.l) /\ (0 < n -> ∃ g o,A = some ⟨g,o,none⟩ /\ ∀ (k : Nat) (r : RI),rs[k]? = some r -> w.cell? ⟨g,o + k,none⟩ = some (.slice r.A r.n r.c))
section
variable {w w' : World} {A : Option Addr} {n c : Nat} {rs : List RI}
theorem MIL.below (h : MIL w A n c rs) (hb : Below w.heap.size w w') : MIL w' A n c rs:=by
 obtain ⟨h1,h2,h3,h4,h5⟩:=h;refine ⟨h1,h2,h3,fun r hr=>(h4 r hr).below hb,fun hn=>?_⟩;obtain ⟨g,o,e,hc⟩:=h5 hn;exact ⟨g,o,e,fun k r hr=>(hb.cell (Zp (hc k r hr))).trans (hc k r hr)⟩
theorem MIL.at_ (h : MIL w A n c rs) {i : Nat} (hi : i < n) : ∃ g o r,A = some ⟨g,o,none⟩ /\ rs[i]? = some r /\ w.cell? ⟨g,o + i,none⟩ = some (.slice r.A r.n r.c) /\ LimI w r.A r.n r.c r.l:=by
 obtain ⟨h1,h2,h3,h4,h5⟩:=h;obtain ⟨g,o,e,hc⟩:=h5 (by omega);obtain ⟨r,hr⟩ : ∃ r,rs[i]? = some r:=⟨_,List.getElem?_eq_getElem (by omega)⟩;exact ⟨g,o,r,e,hr,hc i r hr,h4 r (List.mem_of_getElem? hr)⟩
theorem LimI.nlen {l : List Int} (h : LimI w A n c l) : n <= maxLen:=Nat.le_trans h.2.1 h.2.2.1
end
def Znj (least x : Int) : Bool:=decide (x < least) || decide (1099511627776 < x)
def Zhd (least : Int) (l : List Int) : Bool:=l.any (Znj least)
theorem Zr1 (x least : Int) (g : Nat) (w : World) (hc : w.cell? ⟨g,0,none⟩ = some (.int .i64 least)) (b : Bool) (hb : Znj least x = b) :
    Calls Tryz.prog 154 #[.int .i64 x,.pointer (some ⟨g,0,none⟩)] w fun e w'=>e = .returned (.bool b) /\ Below w.heap.size w w':=by
 subst hb
 by_cases h1 : x < least
 ·have t1 : decide (x < least) = true:=decide_eq_true h1
  go_enter Tryz.func154,Tryz.ntmps154;go_wp2_with fail;go_ret;exact ⟨by simp [Znj,t1],by first | exact Below.refl _ _ | exact Zf (Below.refl _ _) _⟩
 ·have t1 : decide (x < least) = false:=decide_eq_false h1
  go_enter Tryz.func154,Tryz.ntmps154;go_wp2_with fail;go_ret;exact ⟨by simp [Znj,t1],by first | exact Below.refl _ _ | exact Zf (Below.refl _ _) _⟩
theorem Zsw (A : Option Addr) (n c : Nat) (l : List Int) (least : Int) (p : Nat) (w : World) (h : LimI w A n c l) (hp : w.cell? ⟨p,0,none⟩ = some (.int .i64 least)) (b : Bool) (hb : Zhd least l = b) :
    Calls Tryz.prog 174 #[.slice A n c,.func (.func 154) #[] #[.pointer (some ⟨p,0,none⟩)]] w (IdxB w b):=by
 have hl:=h.1;have hnc:=h.2.1;have hcm:=h.2.2.1;unfold maxLen at hcm;have hg:=Za h.2.2.2.2;clear h;replace hl:=Za hl;replace hb:=Za hb;replace hp:=Za hp;go_enter Tryz.func174,Tryz.ntmps174;go_wp2_with fail
 go_loopw [8] (fun iv wr=>∃ i : Nat,i <= n /\ iv = .int .i64 i /\ Hid (∀ j,j < i -> Znj least (l[j]?.getD 0) = false) /\ Below w.heap.size w wr) (fun iv _=>n - (intOf iv).toNat)
 case atStart=>exact ⟨0,Nat.zero_le _,rfl,Za (fun j hj=>by omega),Below.refl _ _⟩
 case round =>
  obtain ⟨i,hik,rfl,hall,hBp⟩:=hrel
  by_cases hin : i < n
  case neg =>
   obtain rfl : n = i:=by omega
   have htk : decide ((n : Int) < (n : Int)) = false:=by simp
   obtain rfl : b = false:=by
    rw [<- hb.out];unfold Zhd;rw [List.any_eq_false];intro e he;obtain ⟨j,hj,hje⟩:=List.getElem_of_mem he;have:=hall.out j (by rw [hl.out] at hj;exact hj);rw [List.getElem?_eq_getElem hj,hje] at this;simp only [Option.getD_some] at this;rw [this];decide
   go_wp2_with fail;go_ret;exact ⟨-1,rfl,rfl,hBp⟩
  have htk : decide ((i : Int) < (n : Int)) = true:=decide_eq_true (by omega);obtain ⟨g,o,rfl,hcc⟩:=hg.out (by omega);have c0:=(hBp.cell (Zp (hcc i hin))).trans (hcc i hin);have hC:=Za (fun W1 (h1 : Below wr.heap.size wr W1)=>Zr1 (l[i]?.getD 0) least p W1 ((h1.cell (Nat.lt_of_lt_of_le (Zp hp.out) hBp.size)).trans ((hBp.cell (Zp hp.out)).trans hp.out)));clear hcc;obtain ⟨x,hx⟩ : ∃ x,Znj least (l[i]?.getD 0) = x:=⟨_,rfl⟩
  cases x
  ·have hall2 : Hid (∀ j,j < i + 1 -> Znj least (l[j]?.getD 0) = false):=Za (fun j hj=>by
     rcases Nat.lt_or_ge j i with h' | h'
     ·exact hall.out j h'
     ·obtain rfl : j = i:=by omega
      exact hx)
   replace hx:=Za hx
   generalize l[i]?.getD 0 = z at *
   go_wp2_with fail;refine (hC.out _ (by first | exact Below.refl _ _ | exact Zf (Below.refl _ _) _) _ hx.out).mono ?_;rintro e' w1 ⟨rfl,hb1⟩;go_wp2_with fail
   go_roundw
   case rel=>exact ⟨i + 1,by omega,by go_num,hall2,(by first | exact hBp.trans (hb1.mono hBp.size) | exact (Zf hBp _).trans (hb1.mono hBp.size))⟩
   case measure=>simp [intOf];omega
  ·obtain rfl : b = true:=by
     rw [<- hb.out];unfold Zhd;rw [List.any_eq_true];refine ⟨l[i]?.getD 0,?_,hx⟩;have:=hl.out;rw [List.getElem?_eq_getElem (by omega)];exact List.getElem_mem _
   replace hx:=Za hx
   generalize l[i]?.getD 0 = z at *
   go_wp2_with fail;refine (hC.out _ (by first | exact Below.refl _ _ | exact Zf (Below.refl _ _) _) _ hx.out).mono ?_;rintro e' w1 ⟨rfl,hb1⟩;go_wp2_with fail;go_ret;exact ⟨i,rfl,by simp,(by first | exact hBp.trans (hb1.mono hBp.size) | exact (Zf hBp _).trans (hb1.mono hBp.size))⟩
theorem Zq4 (A : Option Addr) (n c : Nat) (l : List Int) (least : Int) (p : Nat) (w : World) (h : LimI w A n c l) (hp : w.cell? ⟨p,0,none⟩ = some (.int .i64 least)) (b : Bool) (hb : Zhd least l = b) :
    Calls Tryz.prog 153 #[.slice A n c,.func (.func 154) #[] #[.pointer (some ⟨p,0,none⟩)]] w fun e w'=>e = .returned (.bool b) /\ Below w.heap.size w w':=by
 go_enter Tryz.func153,Tryz.ntmps153;go_wp2_with fail;refine (Zsw A n c l least p w h hp b hb).mono ?_;rintro e w1 ⟨i,rfl,hi,hb1⟩;replace hi:=Za hi;go_wp2_with fail;go_ret;exact ⟨Zid hi.out,hb1⟩
theorem Zfy (A : Option Addr) (n c : Nat) (l : List Int) (least : Int) (w : World) (h : LimI w A n c l) (b : Bool) (hb : Zhd least l = b) :
    Calls Tryz.prog 111 #[.slice A n c,.int .i64 least] w fun e w'=>e = .returned (.bool b) /\ Below w.heap.size w w':=by
 obtain ⟨W0,hW0,hB0,q0,s0⟩:=Zbp w 2 #[.int .i64 least];have q1:=(q0.cell 0 : W0.cell? ⟨w.heap.size,0,none⟩ = some (.int .i64 least));have hC:=Za (fun W1 (h1 : Below W0.heap.size W0 W1)=>Zq4 A n c l least w.heap.size W1 ((h.below hB0).below h1) ((h1.cell (Zp q1)).trans q1) b hb);clear h;go_enter Tryz.func111,Tryz.ntmps111;go_wp2_with fail;refine (hC.out _ (by first | exact Below.refl _ _ | exact Zf (Below.refl _ _) _)).mono ?_;rintro e w1 ⟨rfl,hb1⟩;go_wp2_with fail;go_ret;exact ⟨rfl,hB0.trans (hb1.mono hB0.size)⟩
theorem Zrp (A : Option Addr) (n c : Nat) (w : World) (hn : n <= maxLen) :
    Calls Tryz.prog 110 #[.slice A n c] w fun e w'=>e = .returned (.bool (decide (12 < n))) /\ Below w.heap.size w w':=by
 unfold maxLen at hn;have hd : decide ((12 : Int) < (n : Int)) = decide (12 < n):=decide_eq_decide.2 (by omega);go_enter Tryz.func110,Tryz.ntmps110;go_wp2_with fail;go_ret;exact ⟨by first | rfl | simp [hd],by first | exact Below.refl _ _ | exact Zf (Below.refl _ _) _⟩
def RI.long (r : RI) : Bool:=decide (12 < r.n)
theorem Zsh (A : Option Addr) (n c : Nat) (rs : List RI) (w : World) (h : MIL w A n c rs) (b : Bool) (hb : rs.any RI.long = b) :
    Calls Tryz.prog 152 #[.slice A n c,.func (.func 110) #[] #[]] w (IdxB w b):=by
 have hl:=h.1;have hnc:=h.2.1;have hcm:=h.2.2.1;unfold maxLen at hcm;replace hl:=Za hl;replace hb:=Za hb;replace h:=Za h;go_enter Tryz.func152,Tryz.ntmps152;go_wp2_with fail
 go_loopw [8] (fun iv wr=>∃ i : Nat,i <= n /\ iv = .int .i64 i /\ Hid (∀ j e,j < i -> rs[j]? = some e -> e.long = false) /\ Below w.heap.size w wr) (fun iv _=>n - (intOf iv).toNat)
 case atStart=>exact ⟨0,Nat.zero_le _,rfl,Za (fun j e hj=>by omega),Below.refl _ _⟩
 case round =>
  obtain ⟨i,hik,rfl,hall,hBp⟩:=hrel
  by_cases hin : i < n
  case neg =>
   obtain rfl : n = i:=by omega
   have htk : decide ((n : Int) < (n : Int)) = false:=by simp
   obtain rfl : b = false:=by
    rw [<- hb.out,List.any_eq_false];intro e he;obtain ⟨j,hj,hje⟩:=List.getElem_of_mem he;have:=hall.out j e (by rw [hl.out] at hj;exact hj) (by rw [List.getElem?_eq_getElem hj,hje]);rw [this];decide
   go_wp2_with fail;go_ret;exact ⟨-1,rfl,rfl,hBp⟩
  have htk : decide ((i : Int) < (n : Int)) = true:=decide_eq_true (by omega);obtain ⟨g,o,r,rfl,he,c0,hL⟩:=(h.out.below hBp).at_ hin;have hC:=Za (fun W1=>Zrp r.A r.n r.c W1 hL.nlen);clear hL
  by_cases hx : 12 < r.n
  ·obtain rfl : b = true:=by
     rw [<- hb.out,List.any_eq_true];exact ⟨r,List.mem_of_getElem? he,by unfold RI.long;simpa using hx⟩
   rw [decide_eq_true hx] at hC;replace he:=Za he;go_wp2_with fail;refine (hC.out _).mono ?_;rintro e' w1 ⟨rfl,hb1⟩;go_wp2_with fail;go_ret;exact ⟨i,rfl,by simp,(by first | exact hBp.trans (hb1.mono hBp.size) | exact (Zf hBp _).trans (hb1.mono hBp.size))⟩
  ·have hall2 : Hid (∀ j e,j < i + 1 -> rs[j]? = some e -> e.long = false):=Za (fun j e' hj he'=>by
     rcases Nat.lt_or_ge j i with h' | h'
     ·exact hall.out j e' h' he'
     ·obtain rfl : j = i:=by omega
      rw [he] at he'
      cases he'
      unfold RI.long;simpa using hx)
   rw [decide_eq_false hx] at hC;replace he:=Za he;go_wp2_with fail;refine (hC.out _).mono ?_;rintro e' w1 ⟨rfl,hb1⟩;go_wp2_with fail
   go_roundw
   case rel=>exact ⟨i + 1,by omega,by go_num,hall2,(by first | exact hBp.trans (hb1.mono hBp.size) | exact (Zf hBp _).trans (hb1.mono hBp.size))⟩
   case measure=>simp [intOf];omega
theorem Zq1 (A : Option Addr) (n c : Nat) (rs : List RI) (w : World) (h : MIL w A n c rs) (b : Bool) (hb : rs.any RI.long = b) :
    Calls Tryz.prog 109 #[.slice A n c,.func (.func 110) #[] #[]] w fun e w'=>e = .returned (.bool b) /\ Below w.heap.size w w':=by
 go_enter Tryz.func109,Tryz.ntmps109;go_wp2_with fail;refine (Zsh A n c rs w h b hb).mono ?_;rintro e w1 ⟨i,rfl,hi,hb1⟩;replace hi:=Za hi;go_wp2_with fail;go_ret;exact ⟨Zid hi.out,hb1⟩
def n0I (rs : List RI) : Nat:=(rs[0]?.map RI.n).getD 0
def Zn3 (k : Nat) (r : RI) : Bool:=decide (r.n = k) && !Zhd (-1099511627776) r.l
def Zjp (rs : List RI) : Bool:=decide (200 < rs.length) || rs.any RI.long
def sysB (rs : List RI) (right weights : List Int) : Bool:=
 !decide (n0I rs = 0) && (decide (weights.length = rs.length) && (decide (right.length = rs.length) && (!Zhd 1 weights && (!Zhd (-1099511627776) right && rs.all (Zn3 (n0I rs))))))
def Zce (rs : List RI) (right weights : List Int) : Int:=if Zjp rs = true then 4 else if sysB rs right weights = true then 0 else 8
theorem Ziz {rs : List RI} {a b : List Int} (h : Zjp rs = true) : Zce rs a b = 4:=by unfold Zce;rw [if_pos h]
theorem Ztm {rs : List RI} {a b : List Int} (h : Zjp rs = false) (h0 : sysB rs a b = false) : Zce rs a b = 8:=by unfold Zce;rw [if_neg (by simp [h]),if_neg (by simp [h0])]
theorem sysE_ok {rs : List RI} {a b : List Int} (h : Zjp rs = false) (h0 : sysB rs a b = true) : Zce rs a b = 0:=by unfold Zce;rw [if_neg (by simp [h]),if_pos h0]
theorem n0I_at {rs : List RI} {r : RI} (h : rs[0]? = some r) : n0I rs = r.n:=by unfold n0I;rw [h];rfl
theorem Zgp (A B C : Option Addr) (n c m d k e0 : Nat) (rs : List RI) (rr ws : List Int) (w : World) (h : MIL w A n c rs) (hr : LimI w B m d rr) (hw : LimI w C k e0 ws) (E : Int) (hE : Zce rs rr ws = E) :
    Calls Tryz.prog 60 #[.slice A n c,.slice B m d,.slice C k e0] w fun e w'=>e = .returned (.int .i64 E) /\ Below w.heap.size w w':=by
 have hl:=h.1;have hnc:=h.2.1;have hcm:=h.2.2.1;have hrl:=hr.1;have hwl:=hw.1;have hrm:=hr.nlen;have hwm:=hw.nlen;unfold maxLen at hcm hrm hwm;replace hE:=Za hE
 by_cases h12 : 200 < n
 ·have t1 : decide ((200 : Int) < (n : Int)) = true:=decide_eq_true (by omega)
  obtain rfl : E = 4:=by rw [<- hE.out];exact Ziz (by unfold Zjp;rw [hl,decide_eq_true h12];rfl)
  go_enter Tryz.func60,Tryz.ntmps60;go_wp2_with fail;go_ret;exact ⟨rfl,by first | exact Below.refl _ _ | exact Zf Below.refl _ _ _⟩
 have t1 : decide ((200 : Int) < (n : Int)) = false:=decide_eq_false (by omega);obtain ⟨x,hx⟩ : ∃ x,rs.any RI.long = x:=⟨_,rfl⟩
 have hlm : Zjp rs = x:=by unfold Zjp;rw [hl,decide_eq_false h12,hx];rfl
 have hC:=Za (fun W1 (hb : Below w.heap.size w W1)=>Zq1 A n c rs W1 (h.below hb) x hx);clear hx;replace hlm:=Za hlm
 cases x
 case true =>
  obtain rfl : E = 4:=by rw [<- hE.out];exact Ziz hlm.out
  clear h;go_enter Tryz.func60,Tryz.ntmps60;go_wp2_with fail;refine (hC.out _ (by first | exact Below.refl _ _ | exact Zf Below.refl _ _ _)).mono ?_;rintro e w1 ⟨rfl,hb1⟩
  have hB1 : Below w.heap.size w w1:=by first | exact hb1 | exact (Below.refl _ _).trans (hb1.mono (Below.refl _ _).size) | exact (Zf (Below.refl _ _) _).trans (hb1.mono (Below.refl _ _).size)
  clear hb1;go_wp2_with fail;go_ret;exact ⟨rfl,by first | exact hB1 | exact Zf hB1 _⟩
 have hbad : sysB rs rr ws = false -> E = 8:=fun hf=>by rw [<- hE.out];exact Ztm hlm.out hf
 have hgood : sysB rs rr ws = true -> E = 0:=fun hf=>by rw [<- hE.out];exact sysE_ok hlm.out hf
 unfold sysB at hbad hgood;rw [hrl,hwl,hl] at hbad hgood;replace hbad:=Za hbad;replace hgood:=Za hgood;clear hE
 by_cases hn0 : n = 0
 ·subst hn0
  obtain rfl : E = 8:=hbad.out (by
   have : rs = []:=List.eq_nil_of_length_eq_zero hl
   rw [this];rfl)
  clear h hgood hbad;go_enter Tryz.func60,Tryz.ntmps60;go_wp2_with fail;refine (hC.out _ (by first | exact Below.refl _ _ | exact Zf Below.refl _ _ _)).mono ?_;rintro e w1 ⟨rfl,hb1⟩
  have hB1 : Below w.heap.size w w1:=by first | exact hb1 | exact (Below.refl _ _).trans (hb1.mono (Below.refl _ _).size) | exact (Zf (Below.refl _ _) _).trans (hb1.mono (Below.refl _ _).size)
  clear hb1;go_wp2_with fail;go_ret;exact ⟨rfl,by first | exact hB1 | exact Zf hB1 _⟩
 have t2 : ((n : Int) == 0) = false:=by simp;omega
 have t2' : decide (n = 0) = false:=by simpa using hn0
 obtain ⟨g,o,r0,rfl,he0,c0,hL0⟩:=h.at_ (i:=0) (by omega);have hr0l:=hL0.nlen;unfold maxLen at hr0l;have hn0':=n0I_at he0;clear he0 hL0;rw [Nat.add_zero] at c0;have hbg:=Zp c0;rw [hn0'] at hbad hgood
 by_cases hz : r0.n = 0
 ·obtain rfl : E = 8:=hbad.out (by rw [decide_eq_true hz];rfl)
  have t3 : ((r0.n : Int) == 0) = true:=by simp [hz]
  have t3' : decide (r0.n = 0) = true:=by simpa using hz
  clear hbad hgood;replace h:=Za h;replace hn0':=Za hn0';replace hz:=Za hz;go_enter Tryz.func60,Tryz.ntmps60;go_wp2_with fail;refine (hC.out _ (by first | exact Below.refl _ _ | exact Zf Below.refl _ _ _)).mono ?_;rintro e w1 ⟨rfl,hb1⟩
  have hB1 : Below w.heap.size w w1:=by first | exact hb1 | exact (Below.refl _ _).trans (hb1.mono (Below.refl _ _).size) | exact (Zf (Below.refl _ _) _).trans (hb1.mono (Below.refl _ _).size)
  clear hb1;have k1:=Zc hB1 c0;go_wp2_with fail;go_ret;exact ⟨rfl,by first | exact hB1 | exact Zf hB1 _⟩
 have t3 : ((r0.n : Int) == 0) = false:=by simpa using hz
 have t3' : decide (r0.n = 0) = false:=by simpa using hz
 rw [t3'] at hbad hgood;replace h:=Za h;replace hl:=Za hl;replace hrl:=Za hrl;replace hwl:=Za hwl;replace hn0':=Za hn0';replace hz:=Za hz
 by_cases hkn : k = n
 case neg =>
  have t4 : ((k : Int) == (n : Int)) = false:=beq_eq_false_iff_ne.2 (by omega)
  have t4n : ((k : Int) != (n : Int)) = true:=by rw [bne,t4];rfl
  have t4' : decide (k = n) = false:=by simpa using hkn
  obtain rfl : E = 8:=hbad.out (by rw [t4'];rfl);clear hbad hgood;replace hkn:=Za hkn;go_enter Tryz.func60,Tryz.ntmps60;go_wp2_with fail;refine (hC.out _ (by first | exact Below.refl _ _ | exact Zf Below.refl _ _ _)).mono ?_;rintro e w1 ⟨rfl,hb1⟩
  have hB1 : Below w.heap.size w w1:=by first | exact hb1 | exact (Below.refl _ _).trans (hb1.mono (Below.refl _ _).size) | exact (Zf (Below.refl _ _) _).trans (hb1.mono (Below.refl _ _).size)
  clear hb1;have k1:=Zc hB1 c0;go_wp2_with fail;go_ret;exact ⟨rfl,by first | exact hB1 | exact Zf hB1 _⟩
 have t4 : ((k : Int) == (n : Int)) = true:=beq_iff_eq.2 (by omega)
 have t4n : ((k : Int) != (n : Int)) = false:=by rw [bne,t4];rfl
 have t4' : decide (k = n) = true:=by simpa using hkn
 rw [Bool.not_false,Bool.true_and,t4',Bool.true_and] at hbad hgood;replace hkn:=Za hkn
 by_cases hmn : m = n
 case neg =>
  have t5 : ((m : Int) == (n : Int)) = false:=beq_eq_false_iff_ne.2 (by omega)
  have t5n : ((m : Int) != (n : Int)) = true:=by rw [bne,t5];rfl
  have t5' : decide (m = n) = false:=by simpa using hmn
  obtain rfl : E = 8:=hbad.out (by rw [t5'];rfl);clear hbad hgood;replace hmn:=Za hmn;go_enter Tryz.func60,Tryz.ntmps60;go_wp2_with fail;refine (hC.out _ (by first | exact Below.refl _ _ | exact Zf Below.refl _ _ _)).mono ?_;rintro e w1 ⟨rfl,hb1⟩
  have hB1 : Below w.heap.size w w1:=by first | exact hb1 | exact (Below.refl _ _).trans (hb1.mono (Below.refl _ _).size) | exact (Zf (Below.refl _ _) _).trans (hb1.mono (Below.refl _ _).size)
  clear hb1;have k1:=Zc hB1 c0;go_wp2_with fail;go_ret;exact ⟨rfl,by first | exact hB1 | exact Zf hB1 _⟩
 have t5 : ((m : Int) == (n : Int)) = true:=beq_iff_eq.2 (by omega)
 have t5n : ((m : Int) != (n : Int)) = false:=by rw [bne,t5];rfl
 have t5' : decide (m = n) = true:=by simpa using hmn
 rw [t5',Bool.true_and] at hbad hgood;replace hmn:=Za hmn;obtain ⟨xw,hxw⟩ : ∃ xw,Zhd 1 ws = xw:=⟨_,rfl⟩;have hW:=Za (fun W1 (hb : Below w.heap.size w W1)=>Zfy C k e0 ws 1 W1 (hw.below hb) xw hxw);rw [hxw] at hbad hgood;clear hxw hw
 cases xw
 case true =>
  obtain rfl : E = 8:=hbad.out rfl;clear hbad hgood;go_enter Tryz.func60,Tryz.ntmps60;go_wp2_with fail;refine (hC.out _ (by first | exact Below.refl _ _ | exact Zf Below.refl _ _ _)).mono ?_;rintro e w1 ⟨rfl,hb1⟩
  have hB1 : Below w.heap.size w w1:=by first | exact hb1 | exact (Below.refl _ _).trans (hb1.mono (Below.refl _ _).size) | exact (Zf (Below.refl _ _) _).trans (hb1.mono (Below.refl _ _).size)
  clear hb1;have k1:=Zc hB1 c0;go_wp2_with fail;refine (hW.out _ (by first | exact hB1 | exact Zf hB1 _)).mono ?_;rintro e w2 ⟨rfl,hb2⟩
  have hB2 : Below w.heap.size w w2:=by first | exact hb2 | exact (hB1).trans (hb2.mono (hB1).size) | exact (Zf (hB1) _).trans (hb2.mono (hB1).size)
  clear hb2;have k2:=Zc hB2 c0;go_wp2_with fail;go_ret;exact ⟨rfl,by first | exact hB2 | exact Zf hB2 _⟩
 rw [Bool.not_false,Bool.true_and] at hbad hgood;obtain ⟨xr,hxr⟩ : ∃ xr,Zhd (-1099511627776) rr = xr:=⟨_,rfl⟩;have hR:=Za (fun W1 (hb : Below w.heap.size w W1)=>Zfy B m d rr (-1099511627776) W1 (hr.below hb) xr hxr);rw [hxr] at hbad hgood;clear hxr hr
 cases xr
 case true =>
  obtain rfl : E = 8:=hbad.out rfl;clear hbad hgood;go_enter Tryz.func60,Tryz.ntmps60;go_wp2_with fail;refine (hC.out _ (by first | exact Below.refl _ _ | exact Zf Below.refl _ _ _)).mono ?_;rintro e w1 ⟨rfl,hb1⟩
  have hB1 : Below w.heap.size w w1:=by first | exact hb1 | exact (Below.refl _ _).trans (hb1.mono (Below.refl _ _).size) | exact (Zf (Below.refl _ _) _).trans (hb1.mono (Below.refl _ _).size)
  clear hb1;have k1:=Zc hB1 c0;go_wp2_with fail;refine (hW.out _ (by first | exact hB1 | exact Zf hB1 _)).mono ?_;rintro e w2 ⟨rfl,hb2⟩
  have hB2 : Below w.heap.size w w2:=by first | exact hb2 | exact (hB1).trans (hb2.mono (hB1).size) | exact (Zf (hB1) _).trans (hb2.mono (hB1).size)
  clear hb2;have k2:=Zc hB2 c0;go_wp2_with fail;refine (hR.out _ (by first | exact hB2 | exact Zf hB2 _)).mono ?_;rintro e w3 ⟨rfl,hb3⟩
  have hB3 : Below w.heap.size w w3:=by first | exact hb3 | exact (hB2).trans (hb3.mono (hB2).size) | exact (Zf (hB2) _).trans (hb3.mono (hB2).size)
  clear hb3;have k3:=Zc hB3 c0;go_wp2_with fail;go_ret;exact ⟨rfl,by first | exact hB3 | exact Zf hB3 _⟩
 rw [Bool.not_false,Bool.true_and] at hbad hgood;go_enter Tryz.func60,Tryz.ntmps60;go_wp2_with fail;refine (hC.out _ (by first | exact Below.refl _ _ | exact Zf Below.refl _ _ _)).mono ?_;rintro e w1 ⟨rfl,hb1⟩
 have hB1 : Below w.heap.size w w1:=by first | exact hb1 | exact (Below.refl _ _).trans (hb1.mono (Below.refl _ _).size) | exact (Zf (Below.refl _ _) _).trans (hb1.mono (Below.refl _ _).size)
 clear hb1;have k1:=Zc hB1 c0;go_wp2_with fail;refine (hW.out _ (by first | exact hB1 | exact Zf hB1 _)).mono ?_;rintro e w2 ⟨rfl,hb2⟩
 have hB2 : Below w.heap.size w w2:=by first | exact hb2 | exact (hB1).trans (hb2.mono (hB1).size) | exact (Zf (hB1) _).trans (hb2.mono (hB1).size)
 clear hb2;have k2:=Zc hB2 c0;go_wp2_with fail;refine (hR.out _ (by first | exact hB2 | exact Zf hB2 _)).mono ?_;rintro e w3 ⟨rfl,hb3⟩
 have hB3 : Below w.heap.size w w3:=by first | exact hb3 | exact (hB2).trans (hb3.mono (hB2).size) | exact (Zf (hB2) _).trans (hb3.mono (hB2).size)
 clear hb3;have k3:=Zc hB3 c0;go_wp2_with fail;clear hC hW hR hB1 hB2 k1 k2
 go_loopw [50] (fun iv wr=>∃ i : Nat,i <= n /\ iv = .int .i64 i /\ Hid (∀ j e,j < i -> rs[j]? = some e -> Zn3 r0.n e = true) /\ Below w.heap.size w wr) (fun iv _=>n - (intOf iv).toNat)
 case atStart=>exact ⟨0,Nat.zero_le _,rfl,Za (fun j e hj=>by omega),(by first | exact hB3 | exact Zf hB3 _)⟩
 case round =>
  clear k3 hB3;obtain ⟨i,hik,rfl,hall,hBp⟩:=hrel;have k0:=Zc hBp c0;clear c0
  by_cases hin : i < n
  case neg =>
   obtain rfl : n = i:=by omega
   have htk : decide ((n : Int) < (n : Int)) = false:=by simp
   obtain rfl : E = 0:=by
    refine hgood.out ?_;rw [List.all_eq_true];intro e he;obtain ⟨j,hj,hje⟩:=List.getElem_of_mem he;exact hall.out j e (by rw [hl.out] at hj;exact hj) (by rw [List.getElem?_eq_getElem hj,hje])
   clear hbad;go_wp2_with fail;go_ret;exact ⟨rfl,hBp⟩
  have htk : decide ((i : Int) < (n : Int)) = true:=decide_eq_true (by omega);obtain ⟨g',o',r,hA,he,c1,hL⟩:=(h.out.below hBp).at_ hin
  cases hA
  have hrnl:=hL.nlen;unfold maxLen at hrnl
  have bad : Zn3 r0.n r = false -> E = 8:=fun hf=>hbad.out (by
   rw [List.all_eq_false]
   exact ⟨r,List.mem_of_getElem? he,by rw [hf];decide⟩)
  have good : Zn3 r0.n r = true -> Hid (∀ j e,j < i + 1 -> rs[j]? = some e -> Zn3 r0.n e = true):=fun hf=>Za (fun j e' hj he'=>by
   rcases Nat.lt_or_ge j i with h' | h'
   ·exact hall.out j e' h' he'
   ·obtain rfl : j = i:=by omega
    rw [he] at he'
    cases he'
    exact hf)
  replace bad:=Za bad;replace good:=Za good;replace he:=Za he;clear hbad
  by_cases hq : r.n = r0.n
  case neg =>
   have t6 : ((r.n : Int) == (r0.n : Int)) = false:=beq_eq_false_iff_ne.2 (by omega)
   have t7 : ((r.n : Int) != (r0.n : Int)) = true:=by rw [bne,t6];rfl
   have t6' : decide (r.n = r0.n) = false:=by simpa using hq
   obtain rfl : E = 8:=bad.out (by unfold Zn3;rw [t6'];rfl);clear hL hgood;go_wp2_with fail;go_ret;exact ⟨rfl,by first | exact hBp | exact Zf hBp _⟩
  have t6 : ((r.n : Int) == (r0.n : Int)) = true:=beq_iff_eq.2 (by omega)
  have t7 : ((r.n : Int) != (r0.n : Int)) = false:=by rw [bne,t6];rfl
  have t6' : decide (r.n = r0.n) = true:=by simpa using hq
  obtain ⟨x,hx⟩ : ∃ x,Zhd (-1099511627776) r.l = x:=⟨_,rfl⟩;have hC:=Za (fun W1 (hb : Below wr.heap.size wr W1)=>Zfy r.A r.n r.c r.l (-1099511627776) W1 (hL.below hb) x hx);replace hx:=Za hx;replace hq:=Za hq;clear hL
  cases x
  ·have hall2:=good.out (by unfold Zn3;rw [t6',hx.out];rfl)
   go_wp2_with fail;refine (hC.out _ (by first | exact Below.refl _ _ | exact Zf (Below.refl _ _) _)).mono ?_;rintro e' w4 ⟨rfl,hb4⟩;go_wp2_with fail
   go_roundw
   case rel=>exact ⟨i + 1,by omega,by go_num,hall2,(by first | exact hBp.trans (hb4.mono hBp.size) | exact (Zf hBp _).trans (hb4.mono hBp.size))⟩
   case measure=>simp [intOf];omega
  ·obtain rfl : E = 8:=bad.out (by unfold Zn3;rw [hx.out];simp)
   clear hgood;go_wp2_with fail;refine (hC.out _ (by first | exact Below.refl _ _ | exact Zf (Below.refl _ _) _)).mono ?_;rintro e' w4 ⟨rfl,hb4⟩;go_wp2_with fail;go_ret;exact ⟨rfl,(by first | exact hBp.trans (hb4.mono hBp.size) | exact (Zf hBp _).trans (hb4.mono hBp.size))⟩
def PolyL (w : World) (A : Option Addr) (n c : Nat) (xs : List Int) : Prop:=∃ es,WL w A n c es /\ es.map WE.num = xs /\ ∀ e ∈ es,e.ok = true
theorem WE.wd {w : World} {e : WE} (h : Lim w e.A e.n e.c e.l) (hk : e.ok = true) : Wd w e.neg e.A e.n e.c e.num:=Wd.of_ok h hk
def Zai : List WE -> List Value
 | []=>[]
 | e :: l=>.bool e.neg :: .slice e.A e.n e.c :: Zai l
def Zbc (es : List WE) : Array Value:=(Zai es).toArray
theorem Za0 (es : List WE) : (Zai es).length = es.length * 2:=by
 induction es with
 | nil=>rfl
 | cons e l ih=>simp only [Zai,List.length_cons,ih];omega
theorem Zlb {es : List WE} {i : Nat} {e : WE} (h : es[i]? = some e) : (Zai es)[i * 2]? = some (.bool e.neg) /\ (Zai es)[i * 2 + 1]? = some (.slice e.A e.n e.c):=by
 induction es generalizing i with
 | nil=>simp at h
 | cons a l ih =>
  cases i with
  | zero=>simp at h;subst h;exact ⟨rfl,rfl⟩
  | succ i =>
   have:=ih (i:=i) (by simpa using h);rw [show (i + 1) * 2 = i * 2 + 1 + 1 by omega]
   simpa [Zai] using this
theorem Zqq {es : List WE} {i : Nat} (e : WE) (h : i < es.length) : ((Zai es).set (i * 2) (.bool e.neg)).set (i * 2 + 1) (.slice e.A e.n e.c) = Zai (es.set i e):=by
 induction es generalizing i with
 | nil=>simp at h
 | cons a l ih =>
  cases i with
  | zero=>rfl
  | succ i =>
   have:=ih (i:=i) (by simpa using h);rw [show (i + 1) * 2 = i * 2 + 1 + 1 by omega];simp only [Zai,List.set_cons_succ,this]
theorem Zl3 (es : List WE) : ∀ (i x : Nat),(Zai es)[i]? ≠ some (limb x):=by
 induction es with
 | nil=>intro i x;simp [Zai]
 | cons a l ih =>
  intro i x
  match i with
  | 0=>simp [Zai]
  | 1=>simp [Zai]
  | i + 2=>simpa [Zai] using ih i x
theorem Zh2 {es : List WE} {i : Nat} {e : WE} (h : es[i]? = some e) : (Zbc es)[i * 2]? = some (.bool e.neg) /\ (Zbc es)[i * 2 + 1]? = some (.slice e.A e.n e.c):=by
 simpa [Zbc] using Zlb h
theorem Zp4 {es : List WE} {i : Nat} (e : WE) (h : i < es.length) : ((Zbc es).setIfInBounds (i * 2) (.bool e.neg)).setIfInBounds (i * 2 + 1) (.slice e.A e.n e.c) = Zbc (es.set i e):=by
 unfold Zbc;rw [<- Zqq e h];simp
theorem Zcu (es : List WE) : NoLimb (Zbc es):=fun i x=>by simpa [Zbc] using Zl3 es i x
theorem Zf8 (es : List WE) (i : Nat) (b : Bool) : NoLimb ((Zbc es).setIfInBounds i (.bool b)):=fun j x=>by
 rw [Array.getElem?_setIfInBounds]
 split
 ·split <;> simp
 ·exact Zcu es j x
def POwn (t : TypeId) (w : World) (g : Nat) (xs : List Int) : Prop:=
 ∃ es : List WE,Blk w g t (Zbc es) /\ (∀ e ∈ es,Lim w e.A e.n e.c e.l /\ e.ok = true) /\ es.map WE.num = xs
section
variable {t : TypeId} {w w' : World} {g : Nat} {xs : List Int}
theorem POwn.below (h : POwn t w g xs) (hb : Below w.heap.size w w') : POwn t w' g xs:=by
 obtain ⟨es,h1,h2,h3⟩:=h;exact ⟨es,Zb hb h1,fun e he=>⟨(h2 e he).1.below hb,(h2 e he).2⟩,h3⟩
theorem POwn.lt (h : POwn t w g xs) : g < w.heap.size:=by obtain ⟨es,h1,_⟩:=h;exact h1.lt
theorem POwn.frozen (h : POwn t w g xs) (i : Nat) : w.frozen? ⟨g,i,none⟩ = false:=by obtain ⟨es,h1,_⟩:=h;exact h1.frozen i
theorem POwn.at_ (h : POwn t w g xs) {i : Nat} (hi : i < xs.length) : ∃ neg A n c,w.cell? ⟨g,i * 2,none⟩ = some (.bool neg) /\ w.cell? ⟨g,i * 2 + 1,none⟩ = some (.slice A n c) /\ Wd w neg A n c (xs[i]?.getD 0):=by
 obtain ⟨es,h1,h2,rfl⟩:=h
 have hl : i < es.length:=by simpa using hi
 have he:=List.getElem?_eq_getElem hl;have hc:=Zh2 he;have hm:=h2 es[i] (List.getElem_mem hl);refine ⟨es[i].neg,es[i].A,es[i].n,es[i].c,by rw [h1.cell];exact hc.1,by rw [h1.cell];exact hc.2,?_⟩;rw [List.getElem?_map,he];exact WE.wd hm.1 hm.2
theorem POwn.set_ (h : POwn t w g xs) {i : Nat} (hi : i < xs.length) {neg : Bool} {A : Option Addr} {n c : Nat} {z : Int} (hz : Wd w neg A n c z) :
    POwn t ((w.setCell ⟨g,i * 2,none⟩ (.bool neg)).setCell ⟨g,i * 2 + 1,none⟩ (.slice A n c)) g (xs.set i z):=by
 obtain ⟨es,h1,h2,rfl⟩:=h
 have hl : i < es.length:=by simpa using hi
 have hb1 : Blk (w.setCell ⟨g,i * 2,none⟩ (.bool neg)) g t ((Zbc es).setIfInBounds (i * 2) (.bool neg)):=h1.set_ _ _;have hb2:=hb1.set_ (i * 2 + 1) (.slice A n c);have hs:=Zp4 (es:=es) (i:=i) ⟨neg,A,n,c,digits z.natAbs⟩ hl;dsimp only at hs;rw [hs] at hb2
 have keep : ∀ (A' : Option Addr) (n' c' : Nat) (l : List Nat),Lim w A' n' c' l -> Lim ((w.setCell ⟨g,i * 2,none⟩ (.bool neg)).setCell ⟨g,i * 2 + 1,none⟩ (.slice A n c)) A' n' c' l:=fun _ _ _ _ h=>(h.set_box h1 (Zcu es) _ _).set_box hb1 (Zf8 _ _ _) _ _
 refine ⟨_,hb2,fun e he=>?_,?_⟩
 ·rcases List.mem_or_eq_of_mem_set he with he | rfl
  ·exact ⟨keep _ _ _ _ (h2 e he).1,(h2 e he).2⟩
  ·exact ⟨keep _ _ _ _ hz.2.2,hz.ok⟩
 ·rw [List.map_set];congr 1;exact hz.sgEq
end
def Zb7 : WE:=⟨false,none,0,0,[]⟩
theorem Zjl (n : Nat) : Zai (List.replicate n Zb7) = (madeCells #[.bool false,.slice none 0 0] (n * 2)).toList:=by
 apply List.ext_getElem?
 intro i
 have hm : (madeCells #[.bool false,.slice none 0 0] (n * 2)).toList[i]? = if i < n * 2 then some ((#[Value.bool false,Value.slice none 0 0])[i % 2]!) else none:=by
  unfold madeCells
  by_cases h : i < n * 2
  ·simp [h]
  ·simp [h]
 rw [hm]
 by_cases h : i < n * 2
 ·rw [if_pos h]
  have he : (List.replicate n Zb7)[i / 2]? = some Zb7:=by rw [List.getElem?_replicate,if_pos (by omega)]
  have hc:=Zlb he
  rcases Nat.mod_two_eq_zero_or_one i with h2 | h2
  ·rw [show i / 2 * 2 = i by omega] at hc;rw [hc.1,h2];rfl
  ·rw [show i / 2 * 2 + 1 = i by omega] at hc;rw [hc.2,h2];rfl
 ·rw [if_neg h]
  exact List.getElem?_eq_none (by rw [Za0];simp;omega)
theorem makeW {P : Program} (t e : TypeId) {i : TypeInfo} (ht : P.underlying t = some (.slice e)) (hi : P.info? e = some i) (hz : i.zero = some (.agg #[.bool false,.slice none 0 0])) (hs : i.size = 2) (hb : i.bytes = 32)
    (x : Int) (n : Nat) (hx : x = n) (hn : n <= 1000000000000) (W : World) :
    (Instr.makeSlice t (.int .i64 x) (.int .i64 x)).run P W = .ok (.slice (some ⟨W.heap.size,0,none⟩) n n) (W.alloc (.cells (Zbc (List.replicate n Zb7)) e)):=by
 subst hx;have hr:=run_make (P:=P) W t e i _ ht hi hz .i64 .i64 n n (by omega) (by omega) (by rw [hb];omega) (by omega);simp only [Int.toNat_natCast] at hr;rw [hr]
 have : madeCells (Value.agg #[.bool false,.slice none 0 0]).cells (n * i.size) = Zbc (List.replicate n Zb7):=by
  rw [hs]
  apply Array.toList_inj.1
  unfold Zbc;rw [Zjl]
  rfl
 rw [this]
theorem POwn.new (t : TypeId) (w : World) (n : Nat) : POwn t (w.alloc (.cells (Zbc (List.replicate n Zb7)) t)) w.heap.size (List.replicate n 0):=
 ⟨List.replicate n Zb7,Blk.new _ _ _,fun e he=>by rw [(List.mem_replicate.1 he).2];exact ⟨Lim.nil _ _ _ (Nat.zero_le _),rfl⟩,by simp [Zb7,WE.num,sg,val]⟩
structure Kept (G : Nat -> Prop) (w w' : World) : Prop where
 os : w'.os = w.os
 tape : w'.tape = w.tape
 output : w'.output = w.output
 size : w.heap.size <= w'.heap.size
 block : ∀ k,k < w.heap.size -> ¬ G k -> w'.heap[k]? = w.heap[k]?
section
variable {G : Nat -> Prop} {w w' w'' : World}
theorem Kept.refl (G : Nat -> Prop) (w : World) : Kept G w w:=⟨rfl,rfl,rfl,Nat.le_refl _,fun _ _ _=>rfl⟩
theorem Kept.trans (h : Kept G w w') (k : Kept G w' w'') : Kept G w w'':=
 ⟨k.os.trans h.os,k.tape.trans h.tape,k.output.trans h.output,Nat.le_trans h.size k.size,fun i hi hg=>(k.block i (Nat.lt_of_lt_of_le hi h.size) hg).trans (h.block i hi hg)⟩
theorem Kept.of_below (h : Below w.heap.size w w') : Kept G w w':=⟨h.os,h.tape,h.output,h.size,fun k hk _=>h.block k hk⟩
theorem Kept.below (h : Kept G w w') (k : Below w'.heap.size w' w'') : Kept G w w'':=h.trans (Kept.of_below k)
theorem Kept.drewN (h : Kept G w w') (n : Nat) : Kept G w (w'.drewN n):=⟨h.os,h.tape,h.output,h.size,h.block⟩
theorem Kept.set_ (h : Kept G w w') {p : Addr} (hp : G p.block \/ w.heap.size <= p.block) (u : Value) : Kept G w (w'.setCell p u):=
 ⟨h.os,h.tape,h.output,by simp [World.setCell];exact h.size,fun k hk hg=>(Below.heap_setCell w' p u k (by rcases hp with hp | hp;exact fun e=>hg (e ▸ hp);omega)).trans (h.block k hk hg)⟩
theorem Kept.blk (h : Kept G w w') {g : Nat} {t : TypeId} {cs : Array Value} (hb : Blk w g t cs) (hg : ¬ G g) : Blk w' g t cs:=(h.block g hb.lt hg).trans hb
theorem Kept.to_below {B : Nat} (h : Kept G w w') (hG : ∀ k,G k -> B <= k) (hB : B <= w.heap.size) : Below B w w':=
 ⟨h.os,h.tape,h.output,h.size,fun k hk=>h.block k (Nat.lt_of_lt_of_le hk hB) (fun hg=>by have:=hG k hg;omega)⟩
theorem Kept.mono {G' : Nat -> Prop} (h : Kept G w w') (hG : ∀ k,k < w.heap.size -> G k -> G' k) : Kept G' w w':=⟨h.os,h.tape,h.output,h.size,fun k hk hg=>h.block k hk (fun h=>hg (hG k hk h))⟩
theorem Kept.lim (h : Kept G w w') {A : Option Addr} {n c : Nat} {l : List Nat} (hl : Lim w A n c l) (hG : ∀ k,G k -> ∃ t cs,Blk w k t cs /\ NoLimb cs) : Lim w' A n c l:=
 ⟨hl.1,hl.2.1,hl.2.2.1,hl.2.2.2.1,fun hn=>by
  obtain ⟨b,o,e,hc⟩:=hl.2.2.2.2 hn;refine ⟨b,o,e,fun k hk=>?_⟩;have h0:=hc k hk;refine (World.cell?_of_block (w:=w) (h.block b (Zp h0) (fun hg=>?_))).trans h0;obtain ⟨t,cs,h1,h2⟩:=hG b hg;have h3:=h0;rw [h1.cell] at h3
  exact h2 _ _ h3⟩
theorem Kept.wd (h : Kept G w w') {neg : Bool} {A : Option Addr} {n c : Nat} {z : Int} (hl : Wd w neg A n c z) (hG : ∀ k,G k -> ∃ t cs,Blk w k t cs /\ NoLimb cs) : Wd w' neg A n c z:=⟨hl.1,hl.2.1,h.lim hl.2.2 hG⟩
end
section
variable {t : TypeId} {w : World} {g : Nat} {xs zs : List Int}
theorem POwn.box (h : POwn t w g xs) : ∃ t cs,Blk w g t cs /\ NoLimb cs:=by
 obtain ⟨es,h1,-,-⟩:=h;exact ⟨t,_,h1,Zcu es⟩
theorem POwn.other {t' : TypeId} {g' : Nat} {ys : List Int} (h : POwn t w g xs) (h' : POwn t' w g' ys) (hne : g ≠ g') (i : Nat) (b : Bool) (A : Option Addr) (n c : Nat) :
    POwn t ((w.setCell ⟨g',i * 2,none⟩ (.bool b)).setCell ⟨g',i * 2 + 1,none⟩ (.slice A n c)) g xs:=by
 obtain ⟨es,h1,h2,h3⟩:=h;obtain ⟨fs,k1,-,-⟩:=h';refine ⟨es,(h1.far hne _).far hne _,fun e he=>⟨?_,(h2 e he).2⟩,h3⟩;exact ((h2 e he).1.set_box k1 (Zcu fs) _ _).set_box (k1.set_ (i * 2) (.bool b)) (Zf8 _ _ _) _ _
end
theorem Zqo {es : List FE} {i : Nat} (e : FE) (h : i < es.length) : ((((Zo es).set (i * 4) (.bool e.na)).set (i * 4 + 1) (.slice e.A e.n e.c)).set (i * 4 + 2) (.bool e.nb)).set (i * 4 + 3) (.slice e.B e.m e.d) = Zo (es.set i e):=by
 induction es generalizing i with
 | nil=>simp at h
 | cons a l ih =>
  cases i with
  | zero=>rfl
  | succ i =>
   have:=ih (i:=i) (by simpa using h);rw [show (i + 1) * 4 = i * 4 + 1 + 1 + 1 + 1 by omega];simp only [Zo,List.set_cons_succ,this]
theorem Zji {es : List FE} {i : Nat} (e : FE) (h : i < es.length) : ((((Zx es).setIfInBounds (i * 4) (.bool e.na)).setIfInBounds (i * 4 + 1) (.slice e.A e.n e.c)).setIfInBounds (i * 4 + 2) (.bool e.nb)).setIfInBounds (i * 4 + 3) (.slice e.B e.m e.d) = Zx (es.set i e):=by
 unfold Zx;rw [<- Zqo e h];simp
theorem Zff {cs : Array Value} (h : NoLimb cs) (i : Nat) {v : Value} (hv : ∀ x,v ≠ limb x) : NoLimb (cs.setIfInBounds i v):=fun j x=>by
 rw [Array.getElem?_setIfInBounds]
 split
 ·split
  ·simpa using hv x
  ·simp
 ·exact h j x
def Zn0 (w : World) (g i : Nat) (na : Bool) (A : Option Addr) (n c : Nat) (nb : Bool) (B : Option Addr) (m d : Nat) : World:=
 (((w.setCell ⟨g,i * 4,none⟩ (.bool na)).setCell ⟨g,i * 4 + 1,none⟩ (.slice A n c)).setCell ⟨g,i * 4 + 2,none⟩ (.bool nb)).setCell ⟨g,i * 4 + 3,none⟩ (.slice B m d)
section
variable {w : World} {g i : Nat} {na : Bool} {A : Option Addr} {n c : Nat} {nb : Bool} {B : Option Addr} {m d : Nat}
theorem Ze7 {A' : Option Addr} {n' c' : Nat} {l : List Nat} {t : TypeId} {cs : Array Value} (h : Lim w A' n' c' l) (hb : Blk w g t cs) (hcs : NoLimb cs) : Lim (Zn0 w g i na A n c nb B m d) A' n' c' l:=by
 have h1:=hb.set_ (i * 4) (.bool na);have l1:=Zff hcs (i * 4) (v:=.bool na) (fun x=>by simp);have h2:=h1.set_ (i * 4 + 1) (.slice A n c);have l2:=Zff l1 (i * 4 + 1) (v:=.slice A n c) (fun x=>by simp);have h3:=h2.set_ (i * 4 + 2) (.bool nb);have l3:=Zff l2 (i * 4 + 2) (v:=.bool nb) (fun x=>by simp);exact (((h.set_box hb hcs _ _).set_box h1 l1 _ _).set_box h2 l2 _ _).set_box h3 l3 _ _
theorem Zrm {na' : Bool} {A' : Option Addr} {n' c' : Nat} {nb' : Bool} {B' : Option Addr} {m' d' : Nat} {r : Rat} {t : TypeId} {cs : Array Value} (h : Fr w na' A' n' c' nb' B' m' d' r) (hb : Blk w g t cs) (hcs : NoLimb cs) : Fr (Zn0 w g i na A n c nb B m d) na' A' n' c' nb' B' m' d' r:=
 ⟨⟨h.1.1,h.1.2.1,Ze7 h.1.2.2 hb hcs⟩,⟨h.2.1,h.2.2.1,Ze7 h.2.2.2 hb hcs⟩⟩
theorem Zk1 {b : Nat} {w0 : World} (h : Below b w0 w) (hg : b <= g) : Below b w0 (Zn0 w g i na A n c nb B m d):=
 (((h.setCell (p:=⟨g,i * 4,none⟩) hg _).setCell (p:=⟨g,i * 4 + 1,none⟩) hg _).setCell (p:=⟨g,i * 4 + 2,none⟩) hg _).setCell (p:=⟨g,i * 4 + 3,none⟩) hg _
end
def FRaw (t : TypeId) (w : World) (g n : Nat) : Prop:=∃ es : List FE,Blk w g t (Zx es) /\ n <= es.length
def FOwn (t : TypeId) (w : World) (g : Nat) (qs : List Rat) : Prop:=∃ es zs : List FE,Blk w g t (Zx (es ++ zs)) /\ (∀ e ∈ es,e.in_ w) /\ es.map FE.q = qs
section
variable {t : TypeId} {w w' : World} {g : Nat} {qs : List Rat}
theorem FRaw.lt {n : Nat} (h : FRaw t w g n) : g < w.heap.size:=by obtain ⟨es,h1,h2⟩:=h;exact h1.lt
theorem FRaw.cells {n i : Nat} (h : FRaw t w g n) (hi : i < n) : ∃ na A k c nb B m d,w.cell? ⟨g,i * 4,none⟩ = some (.bool na) /\ w.cell? ⟨g,i * 4 + 1,none⟩ = some (.slice A k c) /\ w.cell? ⟨g,i * 4 + 2,none⟩ = some (.bool nb) /\ w.cell? ⟨g,i * 4 + 3,none⟩ = some (.slice B m d):=by
 obtain ⟨es,h1,hn⟩:=h;have hc:=Zb6 (List.getElem?_eq_getElem (show i < es.length by omega));exact ⟨_,_,_,_,_,_,_,_,by rw [h1.cell];exact hc.1,by rw [h1.cell];exact hc.2.1,by rw [h1.cell];exact hc.2.2.1,by rw [h1.cell];exact hc.2.2.2⟩
theorem FRaw.frozen {n : Nat} (h : FRaw t w g n) (i : Nat) : w.frozen? ⟨g,i,none⟩ = false:=by obtain ⟨es,h1,-⟩:=h;exact h1.frozen i
theorem FOwn.raw (h : FOwn t w g qs) : FRaw t w g qs.length:=by obtain ⟨es,zs,h1,h2,rfl⟩:=h;exact ⟨es ++ zs,h1,by simp⟩
theorem FOwn.below (h : FOwn t w g qs) (hb : Below w.heap.size w w') : FOwn t w' g qs:=by
 obtain ⟨es,zs,h1,h2,h3⟩:=h;exact ⟨es,zs,Zb hb h1,fun e he=>(h2 e he).below hb,h3⟩
theorem FOwn.lt (h : FOwn t w g qs) : g < w.heap.size:=h.raw.lt
theorem FOwn.at_ (h : FOwn t w g qs) {i : Nat} (hi : i < qs.length) : ∃ na A k c nb B m d,w.cell? ⟨g,i * 4,none⟩ = some (.bool na) /\ w.cell? ⟨g,i * 4 + 1,none⟩ = some (.slice A k c) /\ w.cell? ⟨g,i * 4 + 2,none⟩ = some (.bool nb) /\ w.cell? ⟨g,i * 4 + 3,none⟩ = some (.slice B m d) /\ Fr w na A k c nb B m d (qs[i]?.getD 0):=by
 obtain ⟨es,zs,h1,h2,rfl⟩:=h
 have hl : i < es.length:=by simpa using hi
 have he:=List.getElem?_eq_getElem hl;have hc:=Zb6 (es:=es ++ zs) (i:=i) (e:=es[i]) (by rw [List.getElem?_append_left hl];exact he);refine ⟨_,_,_,_,_,_,_,_,by rw [h1.cell];exact hc.1,by rw [h1.cell];exact hc.2.1,by rw [h1.cell];exact hc.2.2.1,by rw [h1.cell];exact hc.2.2.2,?_⟩;rw [List.getElem?_map,he];exact h2 _ (List.getElem_mem hl)
theorem FOwn.set_ (h : FOwn t w g qs) {i : Nat} (hi : i < qs.length) {na : Bool} {A : Option Addr} {k c : Nat} {nb : Bool} {B : Option Addr} {m d : Nat} {r : Rat} (hr : Fr w na A k c nb B m d r) : FOwn t (Zn0 w g i na A k c nb B m d) g (qs.set i r):=by
 obtain ⟨es,zs,h1,h2,rfl⟩:=h
 have hl : i < es.length:=by simpa using hi
 have h3:=(((h1.set_ (i * 4) (.bool na)).set_ (i * 4 + 1) (.slice A k c)).set_ (i * 4 + 2) (.bool nb)).set_ (i * 4 + 3) (.slice B m d);have hs:=Zji (es:=es ++ zs) (i:=i) ⟨na,A,k,c,nb,B,m,d,r⟩ (by rw [List.length_append];omega);dsimp only at hs;rw [hs,List.set_append_left _ _ hl] at h3;refine ⟨_,zs,h3,fun e he=>?_,by rw [List.map_set]⟩
 rcases List.mem_or_eq_of_mem_set he with he | rfl
 ·exact Zrm (h2 e he) h1 (Zco _)
 ·exact Zrm hr h1 (Zco _)
theorem FOwn.fl (h : FOwn t w g qs) {c : Nat} (hc : qs.length <= c) (hm : c <= maxLen) : FL w (some ⟨g,0,none⟩) qs.length c qs:=by
 obtain ⟨es,zs,h1,h2,rfl⟩:=h;rw [List.length_map] at hc ⊢;refine ⟨es,rfl,hc,hm,h2,rfl,fun _=>⟨g,0,rfl,fun k e he=>?_⟩⟩;have hk : k < es.length:=(List.getElem?_eq_some_iff.1 he).1;have hc:=Zb6 (es:=es ++ zs) (i:=k) (e:=e) (by rw [List.getElem?_append_left hk];exact he);simp only [Nat.zero_add,h1.cell];exact hc
theorem OwnF.fown {base : Nat} {v : Value} (h : OwnF t w base v qs) : (v = .slice none 0 0 /\ qs = []) \/ ∃ g c,v = .slice (some ⟨g,0,none⟩) qs.length c /\ base <= g /\ qs.length <= c /\ c <= maxLen /\ FOwn t w g qs:=by
 obtain ⟨es,h1,h2,rfl⟩:=h
 rcases h1 with ⟨rfl,rfl⟩ | ⟨g,sp,rfl,h4,h5,h6⟩
 ·exact .inl ⟨rfl,rfl⟩
 ·exact .inr ⟨g,_,by rw [List.length_map],h4,by rw [List.length_map];omega,h5,es,List.replicate sp Zak,h6,h2,rfl⟩
end
theorem Zut {t : Array Value} {d : Nat} {u : Value} (h : t[d]? = some u) : t.setIfInBounds d u = t:=by
 apply Array.ext
 ·simp
 ·intro i h1 h2
  rw [Array.getElem_setIfInBounds (by simpa using h1)]
  split
  ·rename_i e
   subst e;rw [Array.getElem?_eq_getElem h2] at h
   injection h with h
   exact h.symm
  ·rfl
section
variable {P : Program} {ops : Array Oper} {Q : Exit -> Act -> World -> Prop} {md : Region.Mode} {L : List Nat} {S : World -> Prop} {f1 f2 d1 d2 F : Nat} {t1 t2 : TypeId} {z1 z2 : Array Value}
theorem Zn {i : Nat} {o : Oper} {K : Act -> World -> Prop} {a : Act} {w : World} (ho : ops[i]? = some o)
    (h : ∀ K' : Act -> World -> Prop,Shut (∀ a w,K a w -> K' a w) -> if Region.wanted o (yielded ops a.tmps) = true then Oper.wp P o a w K' Q else K' (a.put o.dst undef) w) : wpOp P ops Q i K a w:=
 wpOp_step ho (fun K' hK=>h K' hK)
end
def Za2 (md : Region.Mode) (ops : Array Oper) (i : Nat) : List Nat:=match ops[i]? with | some o=>(o.after.toList.filter (fun e=>Region.binds md e)).map (·.on) | none=>[]
def Za5 (ops : Array Oper) (i : Nat) : Nat:=match ops[i]? with | some o=>o.dst.getD 0 | none=>0
def Zba (R : List Nat) (l : Array Bool) : Array Bool:=R.foldl (fun l i=>l.setIfInBounds i true) l
def clo (md : Region.Mode) (ops : Array Oper) : List Nat -> List Nat -> List Nat
 | [],c=>c
 | r :: rs,c=>clo md ops rs (if c.contains r then Za2 md ops r ++ c else c)
def Zbo : List Nat -> Bool
 | []=>true
 | x :: l=>!l.contains x && Zbo l
def Zav : List Nat -> Act -> (Nat -> Value) -> Act
 | [],a,_=>a
 | d :: ds,a,ν=>Zav ds (a.put (some d) (ν d)) ν
def upd (ν : Nat -> Value) (d : Nat) (v : Value) : Nat -> Value:=fun k=>if k = d then v else ν k
theorem Ztq {a : Act} {d e : Nat} {u v : Value} (h : d ≠ e) : (a.put (some d) u).put (some e) v = (a.put (some e) v).put (some d) u:=by
 simp only [Act.put];rw [Array.setIfInBounds_comm _ _ h]
theorem Zrv {ds : List Nat} {a : Act} {ν : Nat -> Value} {d : Nat} {v : Value} (h : d ∉ ds) : Zav ds (a.put (some d) v) ν = (Zav ds a ν).put (some d) v:=by
 induction ds generalizing a with
 | nil=>rfl
 | cons e ds ih =>
  have h1 : d ≠ e:=fun h'=>h (h' ▸ List.mem_cons_self ..)
  show Zav ds ((a.put (some d) v).put (some e) (ν e)) ν = _;rw [Ztq h1,ih (fun h'=>h (List.mem_cons_of_mem _ h'))]
  rfl
theorem Zlw {ds : List Nat} {a : Act} {ν : Nat -> Value} {d : Nat} {v : Value} (h : d ∉ ds) : Zav ds a (upd ν d v) = Zav ds a ν:=by
 induction ds generalizing a with
 | nil=>rfl
 | cons e ds ih =>
  have h1 : e ≠ d:=fun h'=>h (h' ▸ List.mem_cons_self ..)
  show Zav ds (a.put (some e) (upd ν d v e)) (upd ν d v) = Zav ds (a.put (some e) (ν e)) ν;rw [ih (fun h'=>h (List.mem_cons_of_mem _ h'))];simp only [upd,if_neg h1]
theorem put_put {a : Act} {d : Nat} {u v : Value} : (a.put (some d) u).put (some d) v = a.put (some d) v:=by
 simp only [Act.put];rw [Array.setIfInBounds_setIfInBounds]
theorem Zbk {x : Nat} {l : List Nat} (h : Zbo (x :: l) = true) : x ∉ l /\ Zbo l = true:=by
 simp only [Zbo,Bool.and_eq_true,Bool.not_eq_true'] at h;exact ⟨fun hx=>by rw [List.contains_iff_mem.2 hx] at h;exact absurd h.1 (by simp),h.2⟩
theorem Zjg {ds : List Nat} {a : Act} {ν : Nat -> Value} {d : Nat} {v : Value} (h : d ∈ ds) (hn : Zbo ds = true) : (Zav ds a ν).put (some d) v = Zav ds a (upd ν d v):=by
 induction ds generalizing a with
 | nil=>cases h
 | cons e ds ih =>
  obtain ⟨h1,h2⟩:=Zbk hn;show (Zav ds (a.put (some e) (ν e)) ν).put (some d) v = Zav ds (a.put (some e) (upd ν d v e)) (upd ν d v)
  by_cases hd : d = e
  ·subst hd
   rw [<- Zrv h1,put_put,Zlw h1];simp only [upd,if_true]
  ·rcases List.mem_cons.1 h with h' | h'
   ·exact absurd h' hd
   ·rw [ih h' h2]
    simp only [upd,if_neg (Ne.symm hd)]
theorem Zpw {ds : List Nat} {a : Act} : Zav ds a (fun d=>a.tmps.getD d undef) = a:=by
 induction ds with
 | nil=>rfl
 | cons d ds ih =>
  show Zav ds (a.put (some d) (a.tmps.getD d undef)) _ = a
  have : a.put (some d) (a.tmps.getD d undef) = a:=by
   cases a with
   | mk t df =>
    simp only [Act.put]
    congr 1
    rcases Nat.lt_or_ge d t.size with h | h
    ·exact Zut (by rw [Array.getD_eq_getD_getElem?,Array.getElem?_eq_getElem h];rfl)
    ·exact Array.setIfInBounds_eq_of_size_le h
  rw [this];exact ih
theorem Zbw (R : List Nat) (l : Array Bool) (k : Nat) : (Zba R l).getD k true = if k ∈ R then true else l.getD k true:=by
 unfold Zba
 induction R generalizing l with
 | nil=>simp
 | cons r R ih =>
  rw [List.foldl_cons,ih]
  by_cases h1 : k ∈ R
  ·rw [if_pos h1,if_pos (List.mem_cons_of_mem _ h1)]
  ·rw [if_neg h1]
   by_cases h2 : k = r
   ·subst h2
    rw [if_pos (List.mem_cons_self ..)];rw [Array.getD_eq_getD_getElem?,Array.getElem?_setIfInBounds]
    split
    ·split <;> rfl
    ·rename_i h;exact absurd rfl h
   ·rw [if_neg (fun h=>by rcases List.mem_cons.1 h with h | h;exact h2 h;exact h1 h),Go.getD_set_ne true (Ne.symm h2)]
theorem Zfs (R : List Nat) (l : Array Bool) : (Zba R l).size = l.size:=by
 unfold Zba
 induction R generalizing l with
 | nil=>rfl
 | cons r R ih=>rw [List.foldl_cons,ih];simp
theorem Zp6 {l m : Array Bool} (hs : l.size = m.size) (h : ∀ k,l.getD k true = m.getD k true) : l = m:=by
 apply Array.ext hs
 intro i h1 h2;have:=h i;rw [Array.getD_eq_getD_getElem?,Array.getD_eq_getD_getElem?,Array.getElem?_eq_getElem h1,Array.getElem?_eq_getElem h2] at this;exact this
section
variable {P : Program} {ops : Array Oper} {Q : Exit -> Act -> World -> Prop} {md : Region.Mode} {L : List Nat} {S : World -> Prop}
theorem Zpq {l : Array Bool} {R : List Nat} (hd : ∀ r ∈ R,l.getD r false = true -> ∀ p ∈ Za2 md ops r,l.getD p false = true) :
    ∀ (rs : List Nat) (c : List Nat),(∀ r ∈ rs,r ∈ R) -> (∀ x ∈ c,l.getD x false = true) -> ∀ x ∈ clo md ops rs c,l.getD x false = true
 | [],c,_,hc,x,hx=>hc x hx
 | r :: rs,c,hr,hc,x,hx=>by
  refine Zpq hd rs _ (fun y hy=>hr y (List.mem_cons_of_mem _ hy)) (fun y hy=>?_) x hx
  split at hy
  ·rename_i h1
   rcases List.mem_append.1 hy with h2 | h2
   ·exact hd r (hr r (List.mem_cons_self ..)) (hc r (List.contains_iff_mem.1 h1)) y h2
   ·exact hc y h2
  ·exact hc y hy
theorem Zd4 {l : Array Bool} {k : Nat} (h : l.getD k false = true) : l.getD k true = true:=by
 rw [Array.getD_eq_getD_getElem?] at h ⊢
 cases hk : l[k]? with
 | none=>rfl
 | some b=>rw [hk] at h;exact h
theorem Zat {l : Array Bool} {k j : Nat} (h : l.getD k false = true) : (l.setIfInBounds j true).getD k false = true:=by
 by_cases hkj : j = k
 ·subst hkj
  rw [Array.getD_eq_getD_getElem?,Array.getElem?_setIfInBounds_self];rw [Array.getD_eq_getD_getElem?] at h
  split
  ·rfl
  ·rename_i h1;rw [Array.getElem?_eq_none (by omega)] at h;cases h
 ·rw [Go.getD_set_ne false hkj];exact h
theorem Zkj {i : Nat} {l : Array Bool} (h : i ∈ Region.ready md ops l) : l.getD i true = false /\ i < ops.size /\ ∀ p ∈ Za2 md ops i,l.getD p false = true:=by
 obtain ⟨h1,o,ho,h2⟩:=mem_ready.1 h;refine ⟨h1,(Array.getElem?_eq_some_iff.1 ho).1,fun p hp=>?_⟩;unfold Za2 at hp;rw [ho] at hp;obtain ⟨e,he,rfl⟩:=List.mem_map.1 hp;rw [List.mem_filter] at he;exact h2 e (by simpa using he.1) he.2
theorem Zgr {i : Nat} {l : Array Bool} (h1 : l.getD i true = false) {o : Oper} (ho : ops[i]? = some o) (h : ∀ p ∈ Za2 md ops i,l.getD p false = true) : i ∈ Region.ready md ops l:=by
 refine mem_ready.2 ⟨h1,o,ho,fun e he hb=>h _ ?_⟩;unfold Za2;rw [ho];exact List.mem_map.2 ⟨e,List.mem_filter.2 ⟨by simpa using he,hb⟩,rfl⟩
def Zd0 (R : List Nat) (l : Array Bool) : Nat:=(R.filter fun r=>!l.getD r true).length
theorem Zkk {f : Nat -> Nat} : ∀ {R : List Nat},Zbo (R.map f) = true -> Zbo R = true
 | [],_=>rfl
 | r :: R,h=>by
  obtain ⟨h1,h2⟩:=Zbk (x:=f r) (l:=R.map f) h;simp only [Zbo,Bool.and_eq_true,Bool.not_eq_true'];refine ⟨?_,Zkk h2⟩
  cases hc : R.contains r with
  | false=>rfl
  | true=>exact absurd (List.mem_map.2 ⟨r,List.contains_iff_mem.1 hc,rfl⟩) h1
theorem Zey {f : Nat -> Nat} : ∀ {R : List Nat},Zbo (R.map f) = true -> ∀ {r i : Nat},r ∈ R -> i ∈ R -> r ≠ i -> f r ≠ f i
 | [],_,_,_,h,_,_=>by cases h
 | x :: R,h,r,i,hr,hi,hne=>by
  obtain ⟨h1,h2⟩:=Zbk (x:=f x) (l:=R.map f) h
  rcases List.mem_cons.1 hr with hr' | hr'
  ·rcases List.mem_cons.1 hi with hi' | hi'
   ·exact absurd (hr'.trans hi'.symm) hne
   ·exact fun e=>h1 (List.mem_map.2 ⟨i,hi',by rw [<- e,hr']⟩)
  ·rcases List.mem_cons.1 hi with hi' | hi'
   ·exact fun e=>h1 (List.mem_map.2 ⟨r,hr',by rw [e,hi']⟩)
   ·exact Zey h2 hr' hi' hne
theorem Zr4 {R : List Nat} {l : Array Bool} {i : Nat} (hi : i ∉ R) : Zd0 R (l.setIfInBounds i true) = Zd0 R l:=by
 unfold Zd0
 congr 1
 apply List.filter_congr
 intro r hr;rw [Go.getD_set_ne true (fun e : i = r=>hi (e ▸ hr))]
theorem Zkd {R : List Nat} {l : Array Bool} {i : Nat} (hn : Zbo R = true) (hi : i ∈ R) (h : l.getD i true = false) : Zd0 R (l.setIfInBounds i true) + 1 = Zd0 R l:=by
 have hlt : i < l.size:=by
  rcases Nat.lt_or_ge i l.size with h' | h'
  ·exact h'
  ·rw [Array.getD_eq_getD_getElem?,Array.getElem?_eq_none h'] at h;cases h
 have hset : (l.setIfInBounds i true).getD i true = true:=by
  rw [Array.getD_eq_getD_getElem?,Array.getElem?_setIfInBounds_self,if_pos hlt];rfl
 induction R with
 | nil=>cases hi
 | cons r R ih =>
  obtain ⟨n1,n2⟩:=Zbk hn
  by_cases hr : i = r
  ·subst hr
   have:=Zr4 (l:=l) n1;unfold Zd0 at this ⊢;rw [List.filter_cons_of_neg (by simp [hset]),List.filter_cons_of_pos (by simp [h]),this]
   rfl
  ·have hi2 : i ∈ R:=by
     rcases List.mem_cons.1 hi with h' | h'
     ·exact absurd h' hr
     ·exact h'
   have:=ih n2 hi2;unfold Zd0 at this ⊢
   by_cases hb : l.getD r true = true
   ·rw [List.filter_cons_of_neg (by rw [Go.getD_set_ne true hr];simp [hb]),List.filter_cons_of_neg (by simp [hb])];exact this
   ·rw [List.filter_cons_of_pos (by rw [Go.getD_set_ne true hr];simpa using hb),List.filter_cons_of_pos (by simpa using hb),List.length_cons,List.length_cons,this]
theorem Zpc (R : List (Nat × Nat)) (h : R.all (fun p=>Za5 ops p.1 == p.2) = true) : (R.map (·.1)).map (Za5 ops) = R.map (·.2):=by
 rw [List.map_map]
 apply List.map_congr_left
 intro p hp;rw [List.all_eq_true] at h
 simpa using h p hp
end
end Go.Proofs.YtigdclhagmnopaaGreat
