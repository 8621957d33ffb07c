/- Covariances as they come in: what is valid, and how great -/
import Derived.Test.YtaioanjcjijckaaGreatZb26
set_option maxRecDepth 100000
set_option maxHeartbeats 8000000
set_option linter.unusedSimpArgs false
set_option linter.unusedVariables false
namespace Go.Proofs.YtaioanjcjijckaaGreat
open Go.RowKit
def FX.fine64 (e:FX):Bool:=decide (e.few <= 64) && e.ok
def Zcf (es:List FX):Bool:=es.all FX.fine64
def RX.long6 (r:RX):Bool:=decide (6 < r.n)
def long6 (rs:List RX):Bool:=decide (6 < rs.length) || rs.any RX.long6
def Zc1 (k:Nat) (r:RX):Bool:=decide (r.n=k) && Zcf r.es
def Zfv (Q:List (List Rat)):Bool:=decide (∀ i,i < Q.length->∀ k,k < i->Zg Q i k=Zg Q k i)
def posB (A:Nat->Nat->Rat) (n:Nat):Bool:=decide (∀ t,t < n->0 < dQ A t)
theorem posB_iff {A:Nat->Nat->Rat} {n:Nat}:posB A n=true ↔ posP A n:=by unfold posB posP;rw [decide_eq_true_eq]
def Zar (rs:List RX):Int:=if long6 rs=true then 4 else if rs.length=0 then 8 else if rs.all (Zc1 rs.length)=true then (if (Zfv (qM rs) && posB (Zg (qM rs)) rs.length)=true then 0 else 8) else 8
section
variable {rs:List RX}
theorem Zet (h:long6 rs=true):Zar rs=4:=by unfold Zar;rw [if_pos h]
theorem Znt (h:long6 rs=false) (h0:rs.length=0):Zar rs=8:=by unfold Zar;rw [if_neg (by simp [h]),if_pos h0]
theorem Zni (h:long6 rs=false) (h0:rs.length ≠ 0) {r:RX} (hr:r ∈ rs) (hb:Zc1 rs.length r=false):Zar rs=8:=by
 unfold Zar;rw [if_neg (by simp [h]),if_neg h0,if_neg];intro e;rw [List.all_eq_true] at e;have:=e r hr;rw [hb] at this;cases this
theorem Zp8 (h:Zar rs=0):0 < rs.length/\rs.length <= 6/\(∀ r ∈ rs,r.n=rs.length/\Zcf r.es=true)/\Zfv (qM rs)=true/\posP (Zg (qM rs)) rs.length:=by
 unfold Zar at h
 by_cases h1:long6 rs=true
 ·rw [if_pos h1] at h;cases h
 rw [if_neg h1] at h
 by_cases h2:rs.length=0
 ·rw [if_pos h2] at h;cases h
 rw [if_neg h2] at h
 by_cases h3:rs.all (Zc1 rs.length)=true
 ·rw [if_pos h3] at h
  by_cases h4:(Zfv (qM rs) && posB (Zg (qM rs)) rs.length)=true
  ·rw [Bool.and_eq_true] at h4
   have h5:long6 rs=false:=by simpa using h1
   unfold long6 at h5;rw [Bool.or_eq_false_iff] at h5;have h6:=of_decide_eq_false h5.1;refine ⟨by omega,by omega,fun r hr=>?_,h4.1,posB_iff.1 h4.2⟩;rw [List.all_eq_true] at h3;have h7:=h3 r hr;unfold Zc1 at h7;rw [Bool.and_eq_true,decide_eq_true_eq] at h7;exact h7
  ·rw [if_neg h4] at h;cases h
 ·rw [if_neg h3] at h;cases h
theorem symB_iff {Q:List (List Rat)}:Zfv Q=true ↔ ∀ i k,i < Q.length->k < Q.length->Zg Q i k=Zg Q k i:=by
 unfold Zfv;rw [decide_eq_true_eq]
 constructor
 ·intro h i k hi hk
  rcases Nat.lt_trichotomy i k with h1 | h1 | h1
  ·exact (h k hk i h1).symm
  ·rw [h1]
  ·exact h i hi k h1
 ·intro h i hi k hk
  exact h i k hi (by omega)
theorem Zkr {es:List FX} (h:Zcf es=true):∀ e ∈ es,e.ok=true:=fun e he=>by
 unfold Zcf at h;rw [List.all_eq_true] at h;have:=h e he;unfold FX.fine64 at this;rw [Bool.and_eq_true] at this;exact this.2
end
def Zmz (k:Nat) (rs:List RX):Prop:=∀ r ∈ rs,∀ e ∈ r.es,e.few <= k \/ 64 < e.few
section
variable {w:World} {A:Option Addr} {n c:Nat} {rs:List RX}
theorem Zjq {e:FX} (hin:e.in_ w) (hk:e.ok=true) {k:Nat} (hf:e.few <= k):(e.q).num.natAbs <= pw k/\(e.q).den <= pw k:=by
 have h1:Fr w e.na e.A e.n e.c e.nb e.B e.m e.d e.q:=Zmv hin.1 hin.2 hk;have h2:=h1.1.lim.len;have h3:=h1.2.lim.len;unfold FX.few at hf
 constructor
 ·have h4:=Nat.le_of_lt (Zcc e.q.num.natAbs)
  rw [h2] at h4;exact Nat.le_trans h4 (Zdh (by omega))
 ·have h4:=Nat.le_of_lt (Zcc ((e.q.den:Int).natAbs))
  rw [h3] at h4;simp only [Int.natAbs_natCast] at h4;exact Nat.le_trans h4 (Zdh (by omega))
end
attribute [local go_sem] Zf
def IdxC (w:World) (b:Bool) (e:Ending) (w':World):Prop:=∃ i:Int,e=.returned (.int .i64 i)/\decide (0 <= i)=b/\Below w.heap.size w w'
theorem Zs9 (na nb:Bool) (A B:Option Addr) (n c m d:Nat) (la lb:List Nat) (w:World) (ha:Lim w A n c la) (hb:Lim w B m d lb) (b:Bool) (hx:(decide (max n m <= 64) && okF na la nb lb)=b) :
    Calls Tryz.prog 115 #[.agg #[.bool na,.slice A n c,.bool nb,.slice B m d]] w fun e w'=>e=.returned (.bool (!b))/\Below w.heap.size w w':=by
 obtain ⟨W0,hW0,hB0,q0,s0⟩:=Zaw w 29 #[.bool na,.slice A n c,.bool nb,.slice B m d];obtain ⟨a0,a1,a2,a3,-⟩:=q0.four;have ha0:=Nat.le_trans ha.2.1 ha.2.2.1;have hb0:=Nat.le_trans hb.2.1 hb.2.2.1;unfold maxLen at ha0 hb0;obtain ⟨y,hy⟩:∃ y,okF na la nb lb=y:=⟨_,rfl⟩;rw [hy] at hx;have hC:=Za (fun W1 (h1:Below w.heap.size w W1)=>Zo3 na nb A B n c m d la lb W1 (ha.below h1) (hb.below h1) y hy);clear ha hb hy
 have hmx:max (n:Int) (m:Int)=((max n m:Nat):Int):=by omega
 by_cases h8:max n m <= 64
 ·have t1:decide ((64:Int) < ((max n m:Nat):Int))=false:=decide_eq_false (by omega)
  have t1':decide (64 < max n m)=false:=decide_eq_false (by omega);have t1'':decide ((64:Int) < max (n:Int) (m:Int))=false:=decide_eq_false (by omega);rw [decide_eq_true h8,Bool.true_and] at hx;subst hx
  cases y
  ·go_enter Tryz.func115,Tryz.ntmps115
   go_wp2_with fail;refine (hC.out _ (by first | exact hB0 | exact Zi hB0 _)).mono ?_;rintro e w1 ⟨rfl,hb1⟩;simp only [Zft,Bool.false_eq_true,if_false];go_wp2_with fail;go_ret;exact ⟨rfl,(by first | exact hB0.trans (hb1.mono hB0.size) | exact (Zi hB0 _).trans (hb1.mono hB0.size))⟩
  ·go_enter Tryz.func115,Tryz.ntmps115
   go_wp2_with fail;refine (hC.out _ (by first | exact hB0 | exact Zi hB0 _)).mono ?_;rintro e w1 ⟨rfl,hb1⟩;simp only [Zft,if_true];go_wp2_with fail;go_ret;exact ⟨rfl,(by first | exact hB0.trans (hb1.mono hB0.size) | exact (Zi hB0 _).trans (hb1.mono hB0.size))⟩
 ·have t1:decide ((64:Int) < ((max n m:Nat):Int))=true:=decide_eq_true (by omega)
  have t1':decide (64 < max n m)=true:=decide_eq_true (by omega);have t1'':decide ((64:Int) < max (n:Int) (m:Int))=true:=decide_eq_true (by omega);rw [decide_eq_false h8,Bool.false_and] at hx;subst hx;go_enter Tryz.func115,Tryz.ntmps115;go_wp2_with fail;go_ret;exact ⟨rfl,(by first | exact hB0 | exact Zi hB0 _)⟩
theorem Zs5 (A:Option Addr) (n c:Nat) (es:List FX) (w:World) (h:FXL w A n c es) (b:Bool) (hb:Zcf es=b) :
    Calls Tryz.prog 178 #[.slice A n c,.func (.func 115) #[] #[]] w (IdxC w (!b)):=by
 have hl:=h.1;have hnc:=h.2.1;have hcm:=h.2.2.1;unfold maxLen at hcm;replace hl:=Za hl;replace hb:=Za hb;replace h:=Za h;go_enter Tryz.func178,Tryz.ntmps178;go_wp2_with fail
 go_loopw [8] (fun iv wr=>∃ i:Nat,i <= n/\iv=.int .i64 i/\Hid (∀ j e,j < i->es[j]?=some e->e.fine64=true)/\Below w.heap.size w wr) (fun iv _=>n - (intOf iv).toNat)
 case atStart=>exact ⟨0,Nat.zero_le _,rfl,Za (fun j e hj=>by omega),Below.refl _ _⟩
 case round =>
  obtain ⟨i,hik,rfl,hall,hBp⟩:=hrel
  by_cases hin:i < n
  case neg =>
   obtain rfl:n=i:=by omega
   have htk:decide ((n:Int) < (n:Int))=false:=by simp
   obtain rfl:b=true:=by
    rw [<- hb.out];unfold Zcf;rw [List.all_eq_true];intro e he;obtain ⟨j,hj,hje⟩:=List.getElem_of_mem he;exact hall.out j e (by rw [hl.out] at hj;exact hj) (by rw [List.getElem?_eq_getElem hj,hje])
   go_wp2_with fail;go_ret;exact ⟨-1,rfl,rfl,hBp⟩
  have htk:decide ((i:Int) < (n:Int))=true:=decide_eq_true (by omega);obtain ⟨g,o,e,rfl,he,hc,hLa,hLb⟩:=(h.out.below hBp).at_ hin;obtain ⟨c0,c1,c2,c3⟩:=hc;obtain ⟨x,hx⟩:∃ x,e.fine64=x:=⟨_,rfl⟩;have hC:=Za (fun W1 (hb:Below wr.heap.size wr W1)=>Zs9 e.na e.nb e.A e.B e.n e.c e.m e.d e.la e.lb W1 (hLa.below hb) (hLb.below hb) x hx);clear hLa hLb
  cases x
  ·obtain rfl:b=false:=by
     rw [<- hb.out];unfold Zcf;rw [List.all_eq_false];exact ⟨e,List.mem_of_getElem? he,by rw [hx];decide⟩
   replace he:=Za he;clear hx;go_wp2_with fail;refine (hC.out _ (by first | exact Below.refl _ _ | exact Zi (Below.refl _ _) _)).mono ?_;rintro e' w1 ⟨rfl,hb1⟩;go_wp2_with fail;go_ret;exact ⟨i,rfl,by simp,(by first | exact hBp.trans (hb1.mono hBp.size) | exact (Zi hBp _).trans (hb1.mono hBp.size))⟩
  ·have hall2:Hid (∀ j e,j < i+1->es[j]?=some e->e.fine64=true):=Za (fun j e' hj he'=>by
     rcases Nat.lt_or_ge j i with h' | h'
     ·exact hall.out j e' h' he'
     ·obtain rfl:j=i:=by omega
      rw [he] at he'
      cases he'
      exact hx)
   replace he:=Za he;clear hx;go_wp2_with fail;refine (hC.out _ (by first | exact Below.refl _ _ | exact Zi (Below.refl _ _) _)).mono ?_;rintro e' w1 ⟨rfl,hb1⟩;go_wp2_with fail
   go_roundw
   case rel=>exact ⟨i+1,by omega,by go_num,hall2,(by first | exact hBp.trans (hb1.mono hBp.size) | exact (Zi hBp _).trans (hb1.mono hBp.size))⟩
   case measure=>simp [intOf];omega
theorem Zrv (A:Option Addr) (n c:Nat) (es:List FX) (w:World) (h:FXL w A n c es) (b:Bool) (hb:Zcf es=b) :
    Calls Tryz.prog 114 #[.slice A n c,.func (.func 115) #[] #[]] w fun e w'=>e=.returned (.bool (!b))/\Below w.heap.size w w':=by
 go_enter Tryz.func114,Tryz.ntmps114;go_wp2_with fail;refine (Zs5 A n c es w h b hb).mono ?_;rintro e w1 ⟨i,rfl,hi,hb1⟩;replace hi:=Za hi;go_wp2_with fail;go_ret;exact ⟨Zns hi.out,hb1⟩
theorem Ziu (A:Option Addr) (n c:Nat) (es:List FX) (w:World) (h:FXL w A n c es) (b:Bool) (hb:Zcf es=b) :
    Calls Tryz.prog 55 #[.slice A n c] w fun e w'=>e=.returned (.bool b)/\Below w.heap.size w w':=by
 go_enter Tryz.func55,Tryz.ntmps55;go_wp2_with fail;refine (Zrv A n c es w h b hb).mono ?_;rintro e w1 ⟨rfl,hb1⟩;go_wp2_with fail;go_ret;exact ⟨by simp,hb1⟩
theorem Zsi (A:Option Addr) (n c:Nat) (w:World) (hn:n <= maxLen) :
    Calls Tryz.prog 110 #[.slice A n c] w fun e w'=>e=.returned (.bool (decide (6 < n)))/\Below w.heap.size w w':=by
 unfold maxLen at hn;have hd:decide ((6:Int) < (n:Int))=decide (6 < n):=decide_eq_decide.2 (by omega);go_enter Tryz.func110,Tryz.ntmps110;go_wp2_with fail;go_ret;exact ⟨by first | rfl | simp [hd],by first | exact Below.refl _ _ | exact Zi (Below.refl _ _) _⟩
theorem FXL.nlenC {w:World} {A:Option Addr} {n c:Nat} {es:List FX} (h:FXL w A n c es):n <= maxLen:=Nat.le_trans h.2.1 h.2.2.1
theorem Zsr (A:Option Addr) (n c:Nat) (rs:List RX) (w:World) (h:MXL w A n c rs) (b:Bool) (hb:rs.any RX.long6=b) :
    Calls Tryz.prog 176 #[.slice A n c,.func (.func 110) #[] #[]] w (IdxC w b):=by
 have hl:=h.1;have hnc:=h.2.1;have hcm:=h.2.2.1;unfold maxLen at hcm;replace hl:=Za hl;replace hb:=Za hb;replace h:=Za h;go_enter Tryz.func176,Tryz.ntmps176;go_wp2_with fail
 go_loopw [8] (fun iv wr=>∃ i:Nat,i <= n/\iv=.int .i64 i/\Hid (∀ j e,j < i->rs[j]?=some e->e.long6=false)/\Below w.heap.size w wr) (fun iv _=>n - (intOf iv).toNat)
 case atStart=>exact ⟨0,Nat.zero_le _,rfl,Za (fun j e hj=>by omega),Below.refl _ _⟩
 case round =>
  obtain ⟨i,hik,rfl,hall,hBp⟩:=hrel
  by_cases hin:i < n
  case neg =>
   obtain rfl:n=i:=by omega
   have htk:decide ((n:Int) < (n:Int))=false:=by simp
   obtain rfl:b=false:=by
    rw [<- hb.out,List.any_eq_false];intro e he;obtain ⟨j,hj,hje⟩:=List.getElem_of_mem he;have:=hall.out j e (by rw [hl.out] at hj;exact hj) (by rw [List.getElem?_eq_getElem hj,hje]);rw [this];decide
   go_wp2_with fail;go_ret;exact ⟨-1,rfl,rfl,hBp⟩
  have htk:decide ((i:Int) < (n:Int))=true:=decide_eq_true (by omega);obtain ⟨g,o,r,rfl,he,c0,hL⟩:=(h.out.below hBp).at_ hin;have hC:=Za (fun W1=>Zsi r.A r.n r.c W1 hL.nlenC);clear hL
  by_cases hx:6 < r.n
  ·obtain rfl:b=true:=by
     rw [<- hb.out,List.any_eq_true];exact ⟨r,List.mem_of_getElem? he,by unfold RX.long6;simpa using hx⟩
   rw [decide_eq_true hx] at hC;replace he:=Za he;go_wp2_with fail;refine (hC.out _).mono ?_;rintro e' w1 ⟨rfl,hb1⟩;go_wp2_with fail;go_ret;exact ⟨i,rfl,by simp,(by first | exact hBp.trans (hb1.mono hBp.size) | exact (Zi hBp _).trans (hb1.mono hBp.size))⟩
  ·have hall2:Hid (∀ j e,j < i+1->rs[j]?=some e->e.long6=false):=Za (fun j e' hj he'=>by
     rcases Nat.lt_or_ge j i with h' | h'
     ·exact hall.out j e' h' he'
     ·obtain rfl:j=i:=by omega
      rw [he] at he'
      cases he'
      unfold RX.long6;simpa using hx)
   rw [decide_eq_false hx] at hC;replace he:=Za he;go_wp2_with fail;refine (hC.out _).mono ?_;rintro e' w1 ⟨rfl,hb1⟩;go_wp2_with fail
   go_roundw
   case rel=>exact ⟨i+1,by omega,by go_num,hall2,(by first | exact hBp.trans (hb1.mono hBp.size) | exact (Zi hBp _).trans (hb1.mono hBp.size))⟩
   case measure=>simp [intOf];omega
theorem Zqk (A:Option Addr) (n c:Nat) (rs:List RX) (w:World) (h:MXL w A n c rs) (b:Bool) (hb:rs.any RX.long6=b) :
    Calls Tryz.prog 111 #[.slice A n c,.func (.func 110) #[] #[]] w fun e w'=>e=.returned (.bool b)/\Below w.heap.size w w':=by
 go_enter Tryz.func111,Tryz.ntmps111;go_wp2_with fail;refine (Zsr A n c rs w h b hb).mono ?_;rintro e w1 ⟨i,rfl,hi,hb1⟩;replace hi:=Za hi;go_wp2_with fail;go_ret;exact ⟨Zns hi.out,hb1⟩
def covV (rs:List RX):Prop:=long6 rs=false/\rs.length ≠ 0/\rs.all (Zc1 rs.length)=true
def FacC (rs:List RX):Prop:=covV rs->Zfv (qM rs)=true->FacP (Zg (qM rs)) rs.length
section
variable {w:World} {A:Option Addr} {n c:Nat} {rs:List RX}
theorem covV.facts (h:covV rs):0 < rs.length/\rs.length <= 6/\∀ r ∈ rs,r.n=rs.length/\Zcf r.es=true:=by
 obtain ⟨h1,h2,h3⟩:=h;unfold long6 at h1;rw [Bool.or_eq_false_iff] at h1;have h6:=of_decide_eq_false h1.1;refine ⟨by omega,by omega,fun r hr=>?_⟩;rw [List.all_eq_true] at h3;have h7:=h3 r hr;unfold Zc1 at h7;rw [Bool.and_eq_true,decide_eq_true_eq] at h7;exact h7
theorem Zdx (h:Zar rs=0):covV rs/\Zfv (qM rs)=true/\posP (Zg (qM rs)) rs.length:=by
 obtain ⟨h1,h2,h3,h4,h5⟩:=Zp8 h;refine ⟨⟨?_,by omega,?_⟩,h4,h5⟩
 ·cases hl:long6 rs with
  | false=>rfl
  | true=>rw [Zet hl] at h;cases h
 ·rw [List.all_eq_true]
  intro r hr;unfold Zc1;rw [Bool.and_eq_true,decide_eq_true_eq];exact h3 r hr
theorem covV.E (h:covV rs):Zar rs=if (Zfv (qM rs) && posB (Zg (qM rs)) rs.length)=true then 0 else 8:=by
 obtain ⟨h1,h2,h3⟩:=h;unfold Zar;rw [if_neg (by rw [h1];decide),if_neg h2,if_pos h3]
theorem covV.asym (h:covV rs) (hs:Zfv (qM rs)=false):Zar rs=8:=by rw [h.E,hs];rfl
theorem covV.pos (h:covV rs) (hs:Zfv (qM rs)=true) (hp:posP (Zg (qM rs)) rs.length):Zar rs=0:=by
 rw [h.E,hs,posB_iff.2 hp];rfl
theorem covV.neg (h:covV rs) (hs:Zfv (qM rs)=true) (hp:¬ posP (Zg (qM rs)) rs.length):Zar rs=8:=by
 have:posB (Zg (qM rs)) rs.length=false:=by
  cases hb:posB (Zg (qM rs)) rs.length with
  | false=>rfl
  | true=>exact absurd (posB_iff.1 hb) hp
 rw [h.E,hs,this];rfl
theorem covV.good (hV:covV rs) (h:MXL w A n c rs):MFL w A n c (qM rs):=h.mfl fun r hr=>Zkr (hV.facts.2.2 r hr).2
theorem covV.row (hV:covV rs) (h:MXL w A n c rs) (i:Nat) (hi:i < n):((qM rs)[i]?.getD []).length=n:=by
 unfold qM;rw [List.getElem?_map,List.getElem?_eq_getElem (by rw [h.1];exact hi)];simp only [Option.map_some,Option.getD_some,List.length_map];have hr:rs[i]'(by rw [h.1];exact hi) ∈ rs:=List.getElem_mem _;have h4:=(h.2.2.2.1 _ hr).1;rw [h4,(hV.facts.2.2 _ hr).1,h.1]
theorem covV.small (hV:covV rs) (h:MXL w A n c rs) {k:Nat} (hf:Zmz k rs):SmE k (qM rs):=fun i j=>by
 unfold Zg qM;rw [List.getElem?_map]
 cases hr:rs[i]? with
 | none=>exact ⟨Nat.zero_le _,Zb2 _⟩
 | some r =>
  simp only [Option.map_some,Option.getD_some,List.getElem?_map]
  cases he:r.es[j]? with
  | none=>exact ⟨Nat.zero_le _,Zb2 _⟩
  | some e =>
   simp only [Option.map_some,Option.getD_some];have hrm:=List.mem_of_getElem? hr;have hem:=List.mem_of_getElem? he;have h5:=(hV.facts.2.2 r hrm).2;unfold Zcf at h5;rw [List.all_eq_true] at h5;have h6:=h5 e hem;unfold FX.fine64 at h6;rw [Bool.and_eq_true,decide_eq_true_eq] at h6;refine Zjq ((h.2.2.2.1 r hrm).2.2.2.1 e hem) h6.2 ?_
   rcases hf r hrm e hem with h7 | h7 <;> omega
theorem covV.small64 (hV:covV rs) (h:MXL w A n c rs):SmE 64 (qM rs):=hV.small h (fun r _ e _=>Nat.lt_or_ge 64 e.few |>.symm)
theorem SmE.smC {k:Nat} {Q:List (List Rat)} (h:SmE k Q) (hk:k < 1000) (i j:Nat):Sm (Zg Q i j):=
 ⟨Nat.lt_of_le_of_lt (h i j).1 (Zc4 hk),Nat.lt_of_le_of_lt (h i j).2 (Zc4 hk)⟩
theorem covV.fac (hV:covV rs) (h:MXL w A n c rs) (hs:Zfv (qM rs)=true) {k:Nat} (hf:Zmz k rs) (hb:(k * n+k+1) * n+((k * n+k+1) * n+k * n)+2 <= 300):FacP (Zg (qM rs)) n:=by
 have h6:=hV.facts.2.1;have hl:(qM rs).length=n:=qM_len h;have hn:rs.length=n:=h.1;exact FacP.of (hV.small h hf) hl (by omega) (fun i hi=>hV.row h i hi) (fun i k hi hk=>symB_iff.1 hs i k (by omega) (by omega)) hb
theorem FacC.of (h:MXL w A n c rs) {k:Nat} (hf:Zmz k rs) (hb:n <= 6->(k * n+k+1) * n+((k * n+k+1) * n+k * n)+2 <= 300):FacC rs:=fun hV hs=>by
 have hn:rs.length=n:=h.1;rw [hn];exact hV.fac h hs hf (hb (by have:=hV.facts.2.1;omega))
theorem MFL.atS {w:World} {g o n c:Nat} {Q:List (List Rat)} (h:MFL w (some ⟨g,o,none⟩) n c Q) {k:Nat} (hk:k < n):∃ A' n' c',w.cell? ⟨g,o+k,none⟩=some (.slice A' n' c')/\FL w A' n' c' (Q[k]?.getD []):=by
 obtain ⟨g',o',A',n',c',e,h1,h2⟩:=h.at_ hk
 cases e
 exact ⟨_,_,_,h1,h2⟩
theorem cmpQ_zero {a b:Rat}:cmpQ a b=0 ↔ a=b:=by
 unfold cmpQ
 constructor
 ·intro h
  split at h
  ·cases h
  ·split at h
   ·cases h
   ·rename_i h1 h2
    exact Rat.le_antisymm (Rat.not_lt.1 h2) (Rat.not_lt.1 h1)
 ·intro h
  subst h;rw [if_neg Rat.lt_irrefl,if_neg Rat.lt_irrefl]
end
theorem fCmp_ok (na nb na' nb':Bool) (A B A' B':Option Addr) (n c m d n' c' m' d':Nat) (a b:Rat) (w:World) (ha:Fr w na A n c nb B m d a) (hb:Fr w na' A' n' c' nb' B' m' d' b) (sa:Sm a) (sb:Sm b) :
    Calls Tryz.prog 112 #[.agg #[.bool na,.slice A n c,.bool nb,.slice B m d],.agg #[.bool na',.slice A' n' c',.bool nb',.slice B' m' d']] w fun e w'=>e=.returned (.tuple #[.int .i64 (cmpQ a b),.int .i64 0])/\Below w.heap.size w w':=by
 rw [<- Zt6];obtain ⟨R,hR⟩:∃ R,Zbo (a.num * b.den) (b.num * a.den)=R:=⟨_,rfl⟩;rw [hR];replace hR:=Za hR
 have hmx:Tryz.prog.follows .mixedOrders=true:=by kernel_rfl
 have h1:=Za (Zba sa.1 sb.dn);have h2:=Za (Zba sb.1 sa.dn);obtain ⟨W0,hW0,hB0,⟨q0,q1,q2⟩,s0⟩:=Zb5 w 29 #[.bool na,.slice A n c,.bool nb,.slice B m d] 29 #[.bool na',.slice A' n' c',.bool nb',.slice B' m' d'] 30 #[.int .i64 0];have hA:=Za (ha.below hB0);have hD:=Za (hb.below hB0);clear ha hb sa sb;obtain ⟨a0,a1,a2,a3,-⟩:=q0.four;have hq:=Za (And.intro q0 (And.intro q1 q2));clear q0 q1 q2
 go_enter_defers Tryz.func112,Tryz.ntmps112
 go_wp2_with fail;refine (Zdq na nb A B n c m d a W0 hA.out).mono ?_;rintro e w1 ⟨rfl,hb1⟩;have hB1:Below w.heap.size w w1:=hB0.trans (hb1.mono hB0.size);have s1:W0.heap.size <= w1.heap.size:=hb1.size;replace hA:=Za (hA.out.below hb1);replace hD:=Za (hD.out.below hb1);obtain ⟨q0,q1,q2⟩:=hq.out;replace q0:=Zc hb1 q0;replace q1:=Zc hb1 q1;replace q2:=Zc hb1 q2;clear hW0 hq hb1 hB0 a0 a1 a2 a3;obtain ⟨b0,b1,b2,b3,-⟩:=q1.four;have hq:=Za (And.intro q0 (And.intro q1 q2));clear q0 q1 q2;go_wp2_with fail;refine (Zel w1).mono ?_;rintro e w1 ⟨rfl,rfl⟩;go_wp2_with fail;refine (Zdq na' nb' A' B' n' c' m' d' b w1 hD.out).mono ?_;rintro e w2 ⟨rfl,hb2⟩;have hB:=Za (hB1.trans (hb2.mono hB1.size));have sz:=Za hB.out.size;have s2:w1.heap.size <= w2.heap.size:=hb2.size;replace hA:=Za (hA.out.below hb2);replace hD:=Za (hD.out.below hb2);obtain ⟨q0,q1,q2⟩:=hq.out;replace q0:=Za (Zc hb2 q0);replace q1:=Za (Zc hb2 q1);replace q2:=Za (Zc hb2 q2);clear hq hb2 hB1 b0 b1 b2 b3;go_wp2_with fail;refine (Zel w2).mono ?_;rintro e w2 ⟨rfl,rfl⟩;obtain ⟨a0,a1,a2,a3,-⟩:=q0.out.four;obtain ⟨b0,b1,b2,b3,-⟩:=q1.out.four;go_wp2_with fail
 refine Z8 [10] (fun W'=>W'.cell? ⟨w.heap.size,0,none⟩=some (.bool na)/\W'.cell? ⟨w.heap.size,1,none⟩=some (.slice A n c)/\W'.cell? ⟨w.heap.size,2,none⟩=some (.bool nb)/\W'.cell? ⟨w.heap.size,3,none⟩=some (.slice B m d)/\W'.cell? ⟨w.heap.size+1,0,none⟩=some (.bool na')/\W'.cell? ⟨w.heap.size+1,1,none⟩=some (.slice A' n' c')/\W'.cell? ⟨w.heap.size+1,2,none⟩=some (.bool nb')/\W'.cell? ⟨w.heap.size+1,3,none⟩=some (.slice B' m' d')) hmx ⟨a0,a1,a2,a3,b0,b1,b2,b3⟩ (fun _=>?_);refine Zu5 4 [0,1,3,4] rfl (by kernel_rfl) ⟨a0,a1,a2,a3,b0,b1,b2,b3⟩ ?_
 iterate 4 (refine tk1 (v:=?_) rfl (Or.inl ⟨by kernel_rfl,?_⟩) ?_;rotate_left;(· intro W2 hSw;(try dsimp only at hSw);go_simp;try with_reducible rfl);try simp only [Act.put,putL_a,putL_z,putL_s,putG_a,putG_s,putG_z])
 refine tk0 ?_;refine Ze (i:=2) rfl (by kernel_rfl) (fun K hK=>?_);go_simp;refine (Zeg na nb na' nb' A B A' B' n c m d n' c' m' d' a b w2.drew hA.out hD.out h1.out).mono ?_;rintro e w3 ⟨hb3,nu,U,k1,u,rfl,hU⟩;replace hb3:=Zq hb3;replace hU:=Za hU;replace q0:=Za (Zc hb3 q0.out);replace q1:=Za (Zc hb3 q1.out);replace q2:=Za (Zc hb3 q2.out);replace hA:=Za (hA.out.below hb3);replace hD:=Za (hD.out.below hb3);replace hB:=Za (hB.out.trans (hb3.mono sz.out));replace sz:=Za (Nat.le_trans sz.out hb3.size);clear a0 a1 a2 a3 b0 b1 b2 b3;obtain ⟨a0,a1,a2,a3,-⟩:=q0.out.four;obtain ⟨b0,b1,b2,b3,-⟩:=q1.out.four;clear hb3;refine hK.out _ _ (fun _=>⟨a0,a1,a2,a3,b0,b1,b2,b3⟩) ?_;clear hK K
 try simp only [Act.put,putL_a,putL_z,putL_s]
 refine Ze (i:=5) rfl (by kernel_rfl) (fun K hK=>?_);go_simp;refine (Zeg na' nb' na nb A' B' A B n' c' m' d' n c m d b a w3 hD.out hA.out h2.out).mono ?_;rintro e w4 ⟨hb4,nv,V,k2,v,rfl,hV⟩;replace hU:=Za (hU.out.below hb4);replace hV:=Za hV;replace q0:=Za (Zc hb4 q0.out);replace q1:=Za (Zc hb4 q1.out);replace q2:=Za (Zc hb4 q2.out);replace hA:=Za (hA.out.below hb4);replace hD:=Za (hD.out.below hb4);replace hB:=Za (hB.out.trans (hb4.mono sz.out));replace sz:=Za (Nat.le_trans sz.out hb4.size);clear a0 a1 a2 a3 b0 b1 b2 b3;obtain ⟨a0,a1,a2,a3,-⟩:=q0.out.four;obtain ⟨b0,b1,b2,b3,-⟩:=q1.out.four;clear hb4;refine hK.out _ _ (fun _=>⟨a0,a1,a2,a3,b0,b1,b2,b3⟩) ?_;clear hK K
 try simp only [Act.put,putL_a,putL_z,putL_s]
 refine Ze (i:=6) rfl (by kernel_rfl) (fun K hK=>?_);go_simp;refine (Znb nu nv U V k1 u k2 v _ _ w4 hU.out hV.out).mono ?_;rw [hR.out];rintro e w5 ⟨rfl,hb5⟩;replace q0:=Za (Zc hb5 q0.out);replace q1:=Za (Zc hb5 q1.out);replace q2:=Za (Zc hb5 q2.out);replace hA:=Za (hA.out.below hb5);replace hD:=Za (hD.out.below hb5);replace hB:=Za (hB.out.trans (hb5.mono sz.out));replace sz:=Za (Nat.le_trans sz.out hb5.size);clear a0 a1 a2 a3 b0 b1 b2 b3;obtain ⟨a0,a1,a2,a3,-⟩:=q0.out.four;obtain ⟨b0,b1,b2,b3,-⟩:=q1.out.four;clear hb5;have x0:=q2.out.cell 0;have f0:=q2.out.frozen 0
 simp at x0
 refine hK.out _ _ (fun _=>⟨a0,a1,a2,a3,b0,b1,b2,b3⟩) ?_;clear hK K
 try simp only [Act.put,putL_a,putL_z,putL_s]
 refine Zu5 3 [7,8,9] rfl (by kernel_rfl) ⟨a0,a1,a2,a3,b0,b1,b2,b3⟩ ?_
 iterate 3 (refine tk1 (v:=?_) rfl (Or.inl ⟨by kernel_rfl,?_⟩) ?_;rotate_left;(· intro W2 hSw;(try dsimp only at hSw);go_simp;try with_reducible rfl);try simp only [Act.put,putL_a,putL_z,putL_s,putG_a,putG_s,putG_z])
 refine tk0 ?_;refine Zp (i:=10) rfl (by kernel_rfl) (by kernel_rfl) (fun K hK=>?_);go_simp;obtain ⟨W6,hW6,hB6,q2',kW,kB,s6⟩:=Zbu 0 hB.out (by omega) q2.out;rw [hW6];refine hK.out _ _ ?_;clear hK K
 try simp only [Act.put,putL_a,putL_z,putL_s]
 refine Zj (by kernel_rfl) ?_ _;refine OnlyNormal.normal ?_;have r4:=q2'.cell 0
 simp at r4
 go_wp2_with fail;refine leaves_cons (f:=144) (args:=#[.pointer (some ⟨w.heap.size+1+1,0,none⟩)]) (by simp) (by simp [go_sem]) ?_;refine (Zfp _ _).mono ?_;rintro e u' w'' ⟨rfl,rfl,rfl⟩;refine ⟨.tuple #[.int .i64 R,.int .i64 0],by simp [results,Tryz.results112,go_sem,r4],rfl,hB6⟩
def LookPost (rs:List RX) (w:World) (e:Ending) (w':World):Prop:=
 Below w.heap.size w w'/\((Zar rs=0/\∃ v1 v2 L,e=.returned (.agg #[v1,v2])/\FacM 92 99 w' w.heap.size v1 v2 L (Zfs (Zg (qM rs)) rs.length) (dsL (Zg (qM rs)) rs.length)) \/
  (Zar rs ≠ 0/\e=.panicked [{ v:=.iface 154 (.agg #[.int .i64 (Zar rs)]),recovered:=false }]))
theorem LookPost.fall {rs:List RX} {w w':World} {E:Int} (hb:Below w.heap.size w w') (h:Zar rs=E) (h0:E ≠ 0):LookPost rs w (.panicked [{ v:=.iface 154 (.agg #[.int .i64 E]),recovered:=false }]) w':=by
 subst h;exact ⟨hb,.inr ⟨h0,rfl⟩⟩
theorem Zim (A:Option Addr) (n c:Nat) (rs:List RX) (w:World) (h:MXL w A n c rs) (hF:FacC rs) :
    Calls Tryz.prog 53 #[.slice A n c] w (LookPost rs w):=by
 have hmx:Tryz.prog.follows .mixedOrders=true:=by kernel_rfl
 have hl:=Za h.1;have hnc:=h.2.1;have hcm:=h.2.2.1;unfold maxLen at hcm;obtain ⟨W0,hW0,hB0,q0,s0⟩:=Zaw w 94 #[.slice none 0 0,.slice none 0 0];obtain ⟨gx,hgx⟩:∃ g,w.heap.size=g:=⟨_,rfl⟩
 by_cases h6:6 < n
 ·have t1:decide ((n:Int) <= 6)=false:=decide_eq_false (by omega)
  have hE:Hid (Zar rs=4):=Za (Zet (by unfold long6;rw [hl.out,decide_eq_true h6];rfl));clear h;go_enter Tryz.func53,Tryz.ntmps53;go_wp2_with fail;(try rw [hW0]);refine (Zbl 4 W0).mono ?_;rintro e w6 ⟨rfl,rfl⟩;go_wp2_with fail;exact ⟨rfl,LookPost.fall hB0 hE.out (by decide)⟩
 have t1:decide ((n:Int) <= 6)=true:=decide_eq_true (by omega);obtain ⟨x,hx⟩:∃ x,rs.any RX.long6=x:=⟨_,rfl⟩
 have hlm:long6 rs=x:=by unfold long6;rw [hl.out,decide_eq_false h6,hx];rfl
 have hC:=Za (fun W1 (hb:Below w.heap.size w W1)=>Zqk A n c rs W1 (h.below hb) x hx);replace hx:=Za hx;replace hlm:=Za hlm
 cases x
 case true =>
  have hE:Hid (Zar rs=4):=Za (Zet hlm.out);clear h;go_enter Tryz.func53,Tryz.ntmps53;go_wp2_with fail;(try rw [hW0]);refine (hC.out _ hB0).mono ?_;rintro e w1 ⟨rfl,hb1⟩;go_wp2_with fail;refine (Zbl 4 w1).mono ?_;rintro e w6 ⟨rfl,rfl⟩;go_wp2_with fail;exact ⟨rfl,LookPost.fall (hB0.trans (hb1.mono hB0.size)) hE.out (by decide)⟩
 by_cases hn0:n=0
 ·subst hn0
  have hE:Hid (Zar rs=8):=Za (Znt hlm.out hl.out);clear h;go_enter Tryz.func53,Tryz.ntmps53;go_wp2_with fail;(try rw [hW0]);refine (hC.out _ hB0).mono ?_;rintro e w1 ⟨rfl,hb1⟩;go_wp2_with fail;refine (Zcu 4 w1).mono ?_;rintro e w1 ⟨rfl,rfl⟩;go_wp2_with fail;refine (Zbl 8 w1).mono ?_;rintro e w6 ⟨rfl,rfl⟩;go_wp2_with fail;exact ⟨rfl,LookPost.fall (hB0.trans (hb1.mono hB0.size)) hE.out (by decide)⟩
 have t2:decide ((0:Int) < (n:Int))=true:=decide_eq_true (by omega);have t2':decide (0 < n)=true:=decide_eq_true (by omega);have hH:=Za h;have hq0:=Za q0;replace hn0:=Za hn0;clear h q0;go_enter Tryz.func53,Tryz.ntmps53;go_wp2_with fail;(try rw [hW0]);refine (hC.out _ hB0).mono ?_;rintro e w1 ⟨rfl,hb1⟩;have hB1:=hB0.trans (hb1.mono hB0.size);have hq1:=Za (Zc hb1 hq0.out);clear hq0 hC hb1 hB0 hW0 s0;go_wp2_with fail;refine (Zcu 4 w1).mono ?_;rintro e w1 ⟨rfl,rfl⟩;go_wp2_with fail;refine (Zcu 8 w1).mono ?_;rintro e w1 ⟨rfl,rfl⟩;go_wp2_with fail
 go_loopg [27] n (fun t iv wr=>∃ i:Nat,i+t=n/\iv=.int .i64 i/\Hid (∀ j r,j < i->rs[j]?=some r->Zc1 rs.length r=true)/\Below w1.heap.size w1 wr)
 case atStart=>exact ⟨0,by omega,rfl,Za (fun j r hj=>by omega),Below.refl _ _⟩
 case round =>
  obtain ⟨wi,rfl⟩:∃ x:World,x=wr:=⟨_,rfl⟩;obtain ⟨i,hik,rfl,hall,hBi⟩:=hrel;have hBw:=hB1.trans (hBi.mono hB1.size)
  cases gk with
  | succ t =>
   obtain rfl:t=n - (i+1):=by omega
   have hin:i < n:=by omega
   have t3:decide ((i:Int) < (n:Int))=true:=decide_eq_true (by omega)
   have bi:(i:Int) < (n:Int):=by omega
   obtain ⟨g,o,r,rfl,he,c0,hL⟩:=(hH.out.below hBw).at_ hin;have hrl:=hL.nlenC;unfold maxLen at hrl;have bad:Hid (Zc1 rs.length r=false->Zar rs=8):=Za (fun hf=>Zni hlm.out (by rw [hl.out];exact hn0.out) (List.mem_of_getElem? he) hf)
   have good:Hid (Zc1 rs.length r=true->∀ j r',j < i+1->rs[j]?=some r'->Zc1 rs.length r'=true):=Za (fun hf j r' hj he'=>by
    rcases Nat.lt_or_ge j i with h' | h'
    ·exact hall.out j r' h' he'
    ·obtain rfl:j=i:=by omega
     rw [he] at he'
     cases he'
     exact hf)
   replace he:=Za he
   by_cases hq:r.n=n
   case neg =>
    have t4:((r.n:Int) == (n:Int))=false:=beq_eq_false_iff_ne.2 (by omega)
    have t4':decide (r.n=n)=false:=by simpa using hq
    have hE:Hid (Zar rs=8):=Za (bad.out (by unfold Zc1;rw [hl.out,decide_eq_false hq];rfl));replace hq:=Za hq;clear hL;go_wp2_with fail;refine (Zbl 8 wi).mono ?_;rintro e w6 ⟨rfl,rfl⟩;go_wp2_with fail;exact ⟨rfl,LookPost.fall hBw hE.out (by decide)⟩
   have t4:((r.n:Int) == (n:Int))=true:=beq_iff_eq.2 (by omega)
   have t4':decide (r.n=n)=true:=by simpa using hq
   obtain ⟨y,hy⟩:∃ y,Zcf r.es=y:=⟨_,rfl⟩;have hV:=Za (fun W1 (hb:Below wi.heap.size wi W1)=>Ziu r.A r.n r.c r.es W1 (hL.below hb) y hy);have hqn:=Za hq;replace hq:=Za hq;clear hL
   cases y
   ·have hE:Hid (Zar rs=8):=Za (bad.out (by unfold Zc1;rw [hy];simp))
    clear hy;go_wp2_with fail;refine (hV.out _ (by first | exact Below.refl _ _ | exact Zi (Below.refl _ _) _)).mono ?_;rintro e' w2 ⟨rfl,hb2⟩;go_wp2_with fail;refine (Zbl 8 w2).mono ?_;rintro e w6 ⟨rfl,rfl⟩;go_wp2_with fail;exact ⟨rfl,LookPost.fall (hBw.trans (hb2.mono hBw.size)) hE.out (by decide)⟩
   ·have hall2:=Za (good.out (by unfold Zc1;rw [hy,hl.out,hqn.out,decide_eq_true rfl];rfl))
    clear hy;go_wp2_with fail;refine (hV.out _ (by first | exact Below.refl _ _ | exact Zi (Below.refl _ _) _)).mono ?_;rintro e' w2 ⟨rfl,hb2⟩;go_wp2_with fail;refine (Zcu 8 w2).mono ?_;rintro e w2 ⟨rfl,rfl⟩;go_wp2_with fail
    go_roundg (n - (i+1))
    case measure=>omega
    case rel=>exact ⟨i+1,by omega,by go_num,hall2,hBi.trans (hb2.mono hBi.size)⟩
  | zero =>
   obtain rfl:i=n:=by omega
   have t3:decide ((i:Int) < (i:Int))=false:=by simp
   have hV:Hid (covV rs):=Za ⟨hlm.out,by rw [hl.out];exact hn0.out,by
    rw [List.all_eq_true];intro r hr;obtain ⟨j,hj,e⟩:=List.getElem_of_mem hr
    exact hall.out j r (by rw [hl.out] at hj;exact hj) (by rw [List.getElem?_eq_getElem hj,e])⟩
   have hqi:=Za (Zc hBi hq1.out);have hM:=Za (hV.out.good (hH.out.below hBw));have hSm:Hid (∀ a b,Sm (Zg (qM rs) a b)):=Za (fun a b=>(hV.out.small64 hH.out).smC (by decide) a b);have hrow:Hid (∀ a,a < i->((qM rs)[a]?.getD []).length=i):=Za (fun a ha=>hV.out.row hH.out a ha);clear hq1;go_wp2_with fail
   go_loopg [44] i (fun t jv wr=>∃ j:Nat,j+t=i/\jv=.int .i64 j/\Hid (∀ a b,a < j->b < a->Zg (qM rs) a b=Zg (qM rs) b a)/\Below wi.heap.size wi wr)
   case atStart=>exact ⟨0,by omega,rfl,Za (fun a b ha=>by omega),Below.refl _ _⟩
   case round =>
    obtain ⟨wj,rfl⟩:∃ x:World,x=wr:=⟨_,rfl⟩;obtain ⟨j,hjk,rfl,hsy,hBj⟩:=hrel;have hBwj:=hBw.trans (hBj.mono hBw.size)
    cases gk with
    | zero =>
     obtain rfl:j=i:=by omega
     have t4:decide ((j:Int) < (j:Int))=false:=by simp
     have hs:Hid (Zfv (qM rs)=true):=Za (by
      unfold Zfv;rw [decide_eq_true_eq];intro a ha b hb;rw [show (qM rs).length=j by unfold qM;rw [List.length_map,hl.out]] at ha
      exact hsy.out a b ha hb)
     have hFP:Hid (FacP (Zg (qM rs)) j):=Za (by have:=hF hV.out hs.out;rw [hl.out] at this;exact this);go_wp2_with fail;refine (Zpj A j c (qM rs) wj (hM.out.below hBj) (by omega) hrow.out hFP.out).mono ?_;rintro e w5 ⟨hb5,⟨hp,v1,v2,L,rfl,hFM⟩ | ⟨hn,rfl⟩⟩
     ·have hqj:=Zc (hBj.trans (hb5.mono hBj.size)) hqi.out
      rw [hgx] at hqj;obtain ⟨A1,c1,rfl,-⟩:=hFM.1.mflA;obtain ⟨A2,c2,rfl,-⟩:=hFM.2.1.fl;rw [Zcg,Zds] at hFM ⊢
      have y0:w5.cell? ⟨gx,0,none⟩=some (.slice none 0 0):=by rw [hqj.cell];rfl
      have y1:w5.cell? ⟨gx,1,none⟩=some (.slice none 0 0):=by rw [hqj.cell];rfl
      have z0:=hqj.frozen 0;have z1:=hqj.frozen 1;obtain ⟨X,hX⟩:∃ X,(w5.setCell ⟨gx,0,none⟩ (.slice A1 j c1)).setCell ⟨gx,1,none⟩ (.slice A2 j c2)=X:=⟨_,rfl⟩
      have hKX:Kept (fun k=>k=gx) w5 X:=by rw [<- hX];exact Kept.set_ (G:=fun k=>k=gx) (Kept.set_ (G:=fun k=>k=gx) (Kept.refl _ _) (p:=⟨gx,0,none⟩) (.inl rfl) _) (p:=⟨gx,1,none⟩) (.inl rfl) _
      have hbX:Blk X gx 94 #[.slice A1 j c1,.slice A2 j c2]:=by rw [<- hX];exact (hqj.set_ 0 (.slice A1 j c1)).set_ 1 (.slice A2 j c2)
      have x0:X.cell? ⟨gx,0,none⟩=some (.slice A1 j c1):=by rw [hbX.cell];rfl
      have x1:X.cell? ⟨gx,1,none⟩=some (.slice A2 j c2):=by rw [hbX.cell];rfl
      have hgj:gx < wj.heap.size:=by have:=hqi.out.lt;rw [hgx] at this;have:=hBj.size;omega
      have hFX:=Za (hFM.box hqj (Zdc _ _ _ _ _ _) hgj hKX);have hp0:Hid (Zar rs=0):=Za (hV.out.pos hs.out (by rw [hl.out];exact hp));have hB5:Hid (Below w.heap.size w w5):=Za (hBwj.trans (hb5.mono hBwj.size));have hBX:Hid (Below w.heap.size w X):=Za (hB5.out.trans (hKX.to_below (fun k e=>by omega) (by have:=hB5.out.size;exact this)));have hwj:Hid (w.heap.size <= wj.heap.size):=Za hBwj.size;clear hFM hKX hbX hqj hp;(try rw [hgx]);go_wp2_with fail;(try rw [hgx]);(try rw [hX]);refine bodyPost_ret (v:=.agg #[.slice A1 j c1,.slice A2 j c2]) (by simp [results,Tryz.results53,go_sem,x0,x1,hgx]) rfl ?_;refine ⟨hBX.out,.inl ⟨hp0.out,_,_,L,rfl,?_⟩⟩;rw [hl.out];exact hFX.out.lower hwj.out
     ·have hE:Hid (Zar rs=8):=Za (hV.out.neg hs.out (by rw [hl.out];exact hn))
      go_wp2_with fail;exact ⟨rfl,LookPost.fall (hBwj.trans (hb5.mono hBwj.size)) hE.out (by decide)⟩
    | succ t =>
     obtain rfl:t=i - (j+1):=by omega
     have hji:j < i:=by omega
     have t4:decide ((j:Int) < (i:Int))=true:=decide_eq_true (by omega)
     have bj:(j:Int) < (i:Int):=by omega
     obtain ⟨g,o,A',n',c',rfl,c0,hR⟩:=(hM.out.below hBj).at_ hji
     have hn':i=n':=by rw [<- hR.len];exact (hrow.out j hji).symm
     subst hn';have hrcap:=hR.cap;unfold maxLen at hrcap;replace hR:=Za hR;go_wp2_with fail
     go_loopg [50] j (fun t kv wr=>∃ k:Nat,k+t=j/\kv=.int .i64 k/\Hid (∀ b,b < k->Zg (qM rs) j b=Zg (qM rs) b j)/\Below wj.heap.size wj wr)
     case atStart=>exact ⟨0,by omega,rfl,Za (fun b hb=>by omega),Below.refl _ _⟩
     case round =>
      obtain ⟨wk,rfl⟩:∃ x:World,x=wr:=⟨_,rfl⟩;obtain ⟨k,hkk,rfl,hsk,hBk⟩:=hrel
      cases gk with
      | zero =>
       obtain rfl:k=j:=by omega
       have t5:decide ((k:Int) < (k:Int))=false:=by simp
       have hsy2:Hid (∀ a b,a < k+1->b < a->Zg (qM rs) a b=Zg (qM rs) b a):=Za (fun a b ha hb=>by
        rcases Nat.lt_or_ge a k with h' | h'
        ·exact hsy.out a b h' hb
        ·obtain rfl:a=k:=by omega
         exact hsk.out b hb)
       go_wp2_with fail
       go_roundg (i - (k+1))
       case measure=>omega
       case rel=>exact ⟨k+1,by omega,by go_num,hsy2,hBj.trans (hBk.mono hBj.size)⟩
      | succ t' =>
       obtain rfl:t'=j - (k+1):=by omega
       have hkj:k < j:=by omega
       have t5:decide ((k:Int) < (j:Int))=true:=decide_eq_true (by omega)
       have bk:(k:Int) < (j:Int):=by omega
       have bki:(k:Int) < (i:Int):=by omega
       have hBjk:=hBj.trans (hBk.mono hBj.size);obtain ⟨ga,oa,xn,xA,xk,xc,xm,xB,xj,xd,rfl,⟨r0,r1,r2,r3⟩,hX⟩:=(hR.out.below hBk).at_ (show k < i by omega);obtain ⟨A2,n2,c2,ck,hR2⟩:=(hM.out.below hBjk).atS (show k < i by omega)
       have hn2:i=n2:=by rw [<- hR2.len];exact (hrow.out k (by omega)).symm
       subst hn2;have hrcap2:=hR2.cap;unfold maxLen at hrcap2;obtain ⟨gb,ob,yn,yA,yk,yc,ym,yB,yj,yd,rfl,⟨s0,s1,s2,s3⟩,hY⟩:=hR2.at_ hji;have eX:((qM rs)[j]?.getD [])[k]?.getD 0=Zg (qM rs) j k:=rfl;have eY:((qM rs)[k]?.getD [])[j]?.getD 0=Zg (qM rs) k j:=rfl;rw [eX] at hX;rw [eY] at hY;replace hX:=Za hX;replace hY:=Za hY;clear eX eY hR2;go_wp2_with fail;obtain ⟨X0,hX0⟩:∃ X,wk.drew=X:=⟨_,rfl⟩
       have hr1:Below wk.heap.size wk X0:=by rw [<- hX0];exact Zi (Below.refl _ _) 1
       have hSv1:Hid (∀ wx,Below wk.heap.size wk wx->wx.cell? ⟨ga,oa+k * 4,none⟩=some (.bool xn)/\wx.cell? ⟨ga,oa+k * 4+1,none⟩=some (.slice xA xk xc)/\wx.cell? ⟨ga,oa+k * 4+2,none⟩=some (.bool xm)/\wx.cell? ⟨ga,oa+k * 4+3,none⟩=some (.slice xB xj xd)/\wx.cell? ⟨g,o+k,none⟩=some (.slice (some ⟨gb,ob,none⟩) i c2)/\wx.cell? ⟨gb,ob+j * 4,none⟩=some (.bool yn)/\wx.cell? ⟨gb,ob+j * 4+1,none⟩=some (.slice yA yk yc)/\wx.cell? ⟨gb,ob+j * 4+2,none⟩=some (.bool ym)/\wx.cell? ⟨gb,ob+j * 4+3,none⟩=some (.slice yB yj yd)):=Za (fun wx hbx=>⟨Zb hbx r0,Zb hbx r1,Zb hbx r2,Zb hbx r3,Zb hbx ck,Zb hbx s0,Zb hbx s1,Zb hbx s2,Zb hbx s3⟩);refine wp_heldS [] hmx hSv1 (by rw [hX0];exact hr1) (fun hxs=>?_);rw [hX0];refine Zu5 11 [0,1,2,3,4,5,6,7,8,9,10] rfl (by kernel_rfl) (hSv1.out _ hr1) ?_
       iterate 11 (refine tk1 (v:=?_) rfl (Or.inl ⟨by kernel_rfl,?_⟩) ?_;rotate_left;(· intro W2 hSw;(try dsimp only at hSw);go_simp;try with_reducible rfl);try simp only [Act.put,putL_a,putL_z,putL_s,putG_a,putG_s,putG_z])
       refine tk0 ?_;refine Ze (i:=11) rfl (by kernel_rfl) (fun K hK=>?_);go_simp;refine (fCmp_ok xn xm yn ym xA xB yA yB xk xc xj xd yk yc yj yd _ _ X0 (hX.out.below hr1) (hY.out.below hr1) (hSm.out _ _) (hSm.out _ _)).mono ?_;rintro e w5 ⟨rfl,hb5⟩;have hr5:=hr1.trans (hb5.mono hr1.size);refine hK.out _ _ (fun _=>hSv1.out _ hr5) ?_;clear hK K
       try simp only [Act.put,putL_a,putL_z,putL_s]
       refine Zu4 5 [12,13,14,15,16] rfl (by kernel_rfl) (hSv1.out _ hr5) ?_
       iterate 5 (refine tk1 (v:=?_) rfl (Or.inl ⟨by kernel_rfl,?_⟩) ?_;rotate_left;(· intro W2 _;go_simp;try with_reducible rfl);try simp only [Act.put,putL_a,putL_z,putL_s,putG_a,putG_s,putG_z])
       refine tk0 ?_;refine Zj (by kernel_rfl) ?_ _;refine OnlyNormal.normal ?_;have hB5:Hid (Below wj.heap.size wj w5):=Za (hBk.trans (hr5.mono hBk.size));clear hSv1 hxs hr1 hr5 hb5 hX0 r0 r1 r2 r3 s0 s1 s2 s3 ck hX hY
       by_cases hq:Zg (qM rs) j k=Zg (qM rs) k j
       ·have hz:cmpQ (Zg (qM rs) j k) (Zg (qM rs) k j)=0:=cmpQ_zero.2 hq
        rw [hz]
        have hsk2:Hid (∀ b,b < k+1->Zg (qM rs) j b=Zg (qM rs) b j):=Za (fun b hb=>by
         rcases Nat.lt_or_ge b k with h' | h'
         ·exact hsk.out b h'
         ·obtain rfl:b=k:=by omega
          exact hq)
        replace hq:=Za hq;replace hz:=Za hz;go_wp2_with fail;refine (Zcu 8 w5).mono ?_;rintro e w5 ⟨rfl,rfl⟩;go_wp2_with fail
        go_roundg (j - (k+1))
        case measure=>omega
        case rel=>exact ⟨k+1,by omega,by go_num,hsk2,hB5.out⟩
       ·obtain ⟨z,hz⟩:∃ z,cmpQ (Zg (qM rs) j k) (Zg (qM rs) k j)=z:=⟨_,rfl⟩
        have hz0:z ≠ 0:=fun e=>hq (cmpQ_zero.1 (by rw [hz];exact e))
        rw [hz]
        have t6:(z == 0)=false:=by simpa using hz0
        have t6':decide (z=0)=false:=by simpa using hz0
        have hE:Hid (Zar rs=8):=Za (hV.out.asym (by
         cases hb:Zfv (qM rs) with
         | false=>rfl
         | true=>exact absurd (symB_iff.1 hb j k (by unfold qM;rw [List.length_map,hl.out];exact hji) (by unfold qM;rw [List.length_map,hl.out];omega)) hq))
        replace hq:=Za hq;replace hz:=Za hz;replace hz0:=Za hz0;go_wp2_with fail;refine (Zbl 8 w5).mono ?_;rintro e w6 ⟨rfl,rfl⟩;go_wp2_with fail;exact ⟨rfl,LookPost.fall (hBwj.trans (hB5.out.mono hBwj.size)) hE.out (by decide)⟩
theorem Znc (L:Option Addr) (k cap:Nat) (qs:List Rat) (w:World) (hl:FL w L k cap qs) (hk:k <= 100) (hs:∀ j,j < k->Sm (sumF qs j)) (he:∀ j:Nat,j < k->Sm (qs[j]?.getD 0)) :
    Calls Tryz.prog 66 #[.slice L k cap] w (Zdi w (sumF qs k)):=by
 have hcap:=hl.cap;unfold maxLen at hcap;obtain ⟨W0,hW0,hB0,q1,s0⟩:=Zaw w 99 #[.bool false,.slice none 0 0,.bool false,.slice none 0 0];obtain ⟨gR,hgR⟩:∃ g,w.heap.size=g:=⟨_,rfl⟩;rw [hgR] at q1 s0 hB0;have hlH:=Za hl;have hsH:=Za hs;have heH:=Za he;clear hl hs he;go_enter Tryz.func66,Tryz.ntmps66;go_wp2_with fail;(try rw [hW0]);(try rw [hgR]);refine (Zt7 0 W0 (by decide) (by decide)).mono ?_;rintro e w1 ⟨hb1,pn,pA,pk,pc,pm,pB,pj,pd,rfl,hf⟩;replace q1:=Zc hb1 q1;obtain ⟨V1,hV1,hBV,t0,tz⟩:=Zaw w1 99 #[.bool false,.slice none 0 0,.bool false,.slice none 0 0];obtain ⟨g0,hg0⟩:∃ g,w1.heap.size=g:=⟨_,rfl⟩;rw [hg0] at t0 tz;obtain ⟨u0,u1,u2,u3,v0,v1,v2,v3⟩:=t0.four;obtain ⟨V2,hV2,p2,hK2,s2⟩:=Zao pn pA pk pc pm pB pj pd t0;have hB2:Below w1.heap.size w1 V2:=hBV.trans (hK2.to_below (fun k e=>by omega) hBV.size);have hA:=Za (hf.below hB2);have q12:=Zc hB2 q1;have hBw1:Hid (Below gR w w1):=Za (hB0.trans (hb1.mono (by omega)));have hsz:Hid (V2.heap.size=g0+1/\gR < g0):=Za ⟨by rw [s2,tz],by have:=hb1.size;omega⟩;have hBV2:Hid (Below gR w V2):=Za (hBw1.out.trans (hB2.mono (by have:=hb1.size;omega)));have hgRH:=Za hgR;clear hf hBV hK2 s2 tz hB2 q1 hb1 hB0 s0 hW0;go_wp2_with fail;(try rw [hg0]);(try rw [hV2]);clear u0 u1 u2 u3 v0 v1 v2 v3 t0 hV1 hV2 hg0 hgR
 go_loopg [9] k (fun t iv wr=>∃ (i:Nat) (xn:Bool) (xA:Option Addr) (xk xc:Nat) (xm:Bool) (xB:Option Addr) (xj xd:Nat),i+t=k/\iv=.int .i64 i/\Blk wr g0 99 #[.bool xn,.slice xA xk xc,.bool xm,.slice xB xj xd]/\Hid (Fr wr xn xA xk xc xm xB xj xd (sumF qs i))/\Kept (fun k=>k=g0) V2 wr)
 case atStart=>exact ⟨0,_,_,_,_,_,_,_,_,by omega,rfl,p2,hA,Kept.refl _ _⟩
 case round =>
  obtain ⟨i,xn,xA,xk,xc,xm,xB,xj,xd,hik,rfl,hb3,hX,hK⟩:=hrel;have hsz':=hsz.out;have hbR:=hK.blk q12 (by omega);have hBwr:Below gR w wr:=hBV2.out.trans (hK.to_below (fun k hk=>by omega) (by omega));obtain ⟨x0,x1,x2,x3,y0,y1,y2,y3⟩:=hb3.four
  cases gk with
  | zero =>
   obtain rfl:i=k:=by omega
   have t1:decide ((i:Int) < (i:Int))=false:=by simp
   obtain ⟨c0,c1,c2,c3,z0,z1,z2,z3⟩:=hbR.four;obtain ⟨W5,hW5,q5,hK5,s5⟩:=Zao xn xA xk xc xm xB xj xd hbR;go_wp2_with fail;(try rw [hW5]);obtain ⟨r0,r1,r2,r3,-⟩:=q5.four;refine bodyPost_ret (v:=.agg #[.bool xn,.slice xA xk xc,.bool xm,.slice xB xj xd]) (by simp [results,Tryz.results66,go_sem,r0,r1,r2,r3]) rfl ?_;refine ⟨?_,_,_,_,_,_,_,_,_,rfl,hX.out.keptN hK5 hbR (Zay _ _ _ _ _ _ _ _)⟩;rw [hgRH.out];exact hBwr.trans (hK5.to_below (fun k e=>by omega) (by have:=hBwr.size;have:=hK.size;omega))
  | succ t =>
   obtain rfl:t=k - (i+1):=by omega
   have hin:i < k:=by omega
   have t1:decide ((i:Int) < (k:Int))=true:=decide_eq_true (by omega)
   have bi:(i:Int) < (k:Int):=by omega
   obtain ⟨gl,o,yn,yA,yk,yc,ym,yB,yj,yd,rfl,⟨c0,c1,c2,c3⟩,hY⟩:=(hlH.out.below (hgRH.out ▸ hBwr)).at_ hin;obtain ⟨W1,hW1,hB1,p1,s1⟩:=Zaw wr 99 #[.bool false,.slice none 0 0,.bool false,.slice none 0 0];obtain ⟨gn,hgn⟩:∃ g,wr.heap.size=g:=⟨_,rfl⟩;rw [hgn] at p1 s1;have hb31:=Zc hB1 hb3;obtain ⟨u0,u1,u2,u3,v0,v1,v2,v3⟩:=p1.four;obtain ⟨W2,hW2,p2',hK2',s2'⟩:=Zao yn yA yk yc ym yB yj yd p1;have hB2':Below wr.heap.size wr W2:=hB1.trans (hK2'.to_below (fun k e=>by omega) hB1.size);have hX2:=hX.out.below hB2';have hY2:=hY.below hB2';have hb32:=Zc hB2' hb3;obtain ⟨m0,m1,m2,m3,n0,n1,n2,n3⟩:=hb32.four;obtain ⟨o0,o1,o2,o3,-⟩:=p2'.four;have e0:=Zb hB1 c0;have e1:=Zb hB1 c1;have e2:=Zb hB1 c2;have e3:=Zb hB1 c3;go_wp2_with fail;(try rw [hW2]);go_wp2_with fail;refine (fAdd_ok xn xm yn ym xA xB yA yB xk xc xj xd yk yc yj yd _ _ W2 hX2 hY2 (hsH.out i hin) (heH.out i hin)).mono ?_;rintro e w3 ⟨hb3',rn,rA,rk,rc,rm,rB,rj,rd,rfl,hf⟩;go_wp2_with fail;refine (Zew rn rm rA rB rk rc rj rd _ w3 hf).mono ?_;rintro e w4 ⟨hb4,sn,sA,sk,sc,sm,sB,sj,sd,rfl,hr⟩;have hb34:=Zc hb4 (Zc hb3' hb32);obtain ⟨m0',m1',m2',m3',n0',n1',n2',n3'⟩:=hb34.four;obtain ⟨W5,hW5,q5,hK5,s5⟩:=Zao sn sA sk sc sm sB sj sd hb34;clear x0 x1 x2 x3 y0 y1 y2 y3 m0 m1 m2 m3 n0 n1 n2 n3 o0 o1 o2 o3 u0 u1 u2 u3 v0 v1 v2 v3 e0 e1 e2 e3 c0 c1 c2 c3;go_wp2_with fail;(try rw [hW5]);have hF5:=Za (hr.keptN hK5 hb34 (Zay _ _ _ _ _ _ _ _))
   have hK6:Kept (fun k=>k=g0) V2 W5:=((hK.below hB2').below (hb3'.trans (hb4.mono hb3'.size))).trans hK5
   go_roundg (k - (i+1))
   case measure=>omega
   case rel=>exact ⟨i+1,_,_,_,_,_,_,_,_,by omega,by go_num,q5,hF5,hK6⟩
theorem Zro {n:Nat} (f g:Nat->Rat):Z4 n (fun i=>f i+g i)=Z4 n f+Z4 n g:=by
 induction n with
 | zero=>simp only [Z4];grind
 | succ n ih=>simp only [Z4];rw [ih];grind
theorem Zne {n:Nat} (f:Nat->Rat) (c:Rat):Z4 n (fun i=>f i * c)=Z4 n f * c:=by
 induction n with
 | zero=>simp only [Z4];grind
 | succ n ih=>simp only [Z4];rw [ih];grind
theorem Zr1 {n m:Nat} (f:Nat->Nat->Rat):Z4 n (fun r=>Z4 m (fun k=>f r k))=Z4 m (fun k=>Z4 n (fun r=>f r k)):=by
 induction n with
 | zero=>simp only [Z4];rw [Zgt (fun _ _=>rfl)]
 | succ n ih=>simp only [Z4];rw [ih,Zro]
def tL (A:Nat->Nat->Rat) (i t:Nat):Rat:=if t < i then lQ A i t else if t=i then 1 else 0
def Zhr (A:Nat->Nat->Rat) (n c:Nat):Rat:=Z4 n (fun s=>Zl A s s c * Zl A s s c / dQ A s)
section
variable {A:Nat->Nat->Rat} {n c:Nat}
theorem Zqq:∀ (t i:Nat),t <= i->A i c=Zl A t i c+Z4 t (fun s=>lQ A i s * Zl A s s c)
 | 0,i,_=>by show A i c=A i c+0;grind
 | t+1,i,h=>by
  have h1:=Zqq t i (by omega);have h2:=Zl2 (A:=A) (k:=c) (show t < i by omega);show A i c=_+(Z4 t _+_);rw [h2]
  grind
theorem col_tL {i:Nat} (hi:i < n):A i c=Z4 n (fun s=>tL A i s * Zl A s s c):=by
 rw [Zkw (n:=i) (m:=n) (k:=i) (f:=fun s=>tL A i s * Zl A s s c) (Nat.le_refl _) hi (fun j h1 h2=>by
  show tL A i j * _=0;unfold tL;rw [if_neg (by omega),if_neg h2]
  grind)]
 have h1:=Zqq (A:=A) (c:=c) i i (Nat.le_refl _)
 have h2:Z4 i (fun s=>tL A i s * Zl A s s c)=Z4 i (fun s=>lQ A i s * Zl A s s c):=Zx fun s hs=>by
  unfold tL;rw [if_pos hs]
 have h3:tL A i i=1:=by unfold tL;rw [if_neg (by omega),if_pos rfl]
 show A i c=Z4 i (fun s=>tL A i s * Zl A s s c)+tL A i i * Zl A i i c;rw [h2,h3,h1]
 grind
theorem Zt8 (hA:∀ i k,i < n->k < n->A i k=A k i) (hp:posP A n) (hU:∀ i j,i < n->j < i->Zl A i i j=0) {i j:Nat} (hi:i < n) (hj:j < n):Zl A i i j=dQ A i * tL A j i:=by
 have hd:=hp.ne hi;unfold tL
 rcases Nat.lt_trichotomy i j with h | h | h
 ·rw [if_pos h]
  unfold lQ;rw [Zdp hA i i j (Nat.le_refl _) (by omega) hi hj]
  grind
 ·subst h
  rw [if_neg (by omega),if_pos rfl];unfold dQ
  grind
 ·rw [if_neg (by omega),if_neg (by omega),hU i j hi h]
  grind
theorem dist_eq (hA:∀ i k,i < n->k < n->A i k=A k i) (hp:posP A n) (hU:∀ i j,i < n->j < i->Zl A i i j=0) {y:Nat->Rat} (hy:∀ i,i < n->Z4 n (fun j=>Zl A i i j * y j)=Zl A i i c) :
    Z4 n (fun i=>A i c * y i)=Zhr A n c:=by
 have h1:∀ i,i < n->Z4 n (fun j=>tL A j i * y j)=Zl A i i c / dQ A i:=fun i hi=>by
  have hd:=hp.ne hi;have h2:=hy i hi;rw [Zx (g:=fun j=>dQ A i * tL A j i * y j) (fun j hj=>by rw [Zt8 hA hp hU hi hj])] at h2
  have h3:Z4 n (fun j=>dQ A i * tL A j i * y j)=Z4 n (fun j=>tL A j i * y j) * dQ A i:=by
   rw [<- Zne]
   exact Zx fun j _=>by grind
  rw [h3] at h2
  grind
 unfold Zhr
 rw [Zx (g:=fun i=>Z4 n (fun s=>tL A i s * Zl A s s c * y i)) (fun i hi=>by
  rw [Zne (fun s=>tL A i s * Zl A s s c) (y i),<- col_tL hi]),Zr1]
 refine Zx fun s hs=>?_
 have h4:Z4 n (fun r=>tL A r s * Zl A s s c * y r)=Z4 n (fun r=>tL A r s * y r) * Zl A s s c:=by
  rw [<- Zne]
  exact Zx fun r _=>by grind
 rw [h4,h1 s hs];rw [Rat.div_def,Rat.div_def]
 grind
def brd (A:Nat->Nat->Rat) (x:Nat->Rat) (n:Nat):Nat->Nat->Rat:=fun i k=>if i < n then (if k < n then A i k else x i) else (if k < n then x k else 0)
theorem Zt0 (x:Nat->Rat) {t i k:Nat} (ht:t <= n) (hi:i < n) (hk:k < n):Zl (brd A x n) t i k=Zl A t i k:=Zb0 (n:=n) (m:=n) (fun i k hi hk=>by unfold brd;rw [if_pos hi,if_pos hk]) (Nat.le_refl _) t i k ht hi hk
theorem Zod (x:Nat->Rat) {t:Nat} (ht:t < n):dQ (brd A x n) t=dQ A t:=Zt0 x (by omega) ht ht
theorem brd_l (x:Nat->Rat) {i t:Nat} (hi:i < n) (ht:t < n):lQ (brd A x n) i t=lQ A i t:=by unfold lQ;rw [Zod x ht,Zt0 x (by omega) hi ht]
theorem Zuw (hA:∀ i k,i < n->k < n->A i k=A k i) (x:Nat->Rat):∀ i k,i < n+1->k < n+1->brd A x n i k=brd A x n k i:=fun i k hi hk=>by
 unfold brd
 by_cases h1:i < n <;> by_cases h2:k < n
 ·rw [if_pos h1,if_pos h2,if_pos h2,if_pos h1,hA i k h1 h2]
 ·rw [if_pos h1,if_neg h2,if_neg h2,if_pos h1]
 ·rw [if_neg h1,if_pos h2,if_pos h2,if_neg h1]
 ·rw [if_neg h1,if_neg h2,if_neg h2,if_neg h1]
theorem Zri (hA:∀ i k,i < n->k < n->A i k=A k i) (x:Nat->Rat):∀ t,t <= n->Zl (brd A x n) t n n=- Z4 t (fun s=>Zl (brd A x n) s s n * Zl (brd A x n) s s n / dQ (brd A x n) s)
 | 0,_=>by
  show brd A x n n n=-0;unfold brd;rw [if_neg (Nat.lt_irrefl _),if_neg (Nat.lt_irrefl _)]
  grind
 | t+1,ht=>by
  rw [Zef (by omega),Zri hA x t (by omega),Zdp (Zuw hA x) t n t (by omega) (Nat.le_refl _) (by omega) (by omega)];show _=-(Z4 t _+Zl (brd A x n) t t n * Zl (brd A x n) t t n / dQ (brd A x n) t);unfold dQ;rw [Rat.div_def (Zl (brd A x n) t t n),Rat.div_def (Zl (brd A x n) t t n * Zl (brd A x n) t t n)]
  grind
end
def zV (A:Nat->Nat->Rat) (n:Nat) (x:Nat->Rat) (s:Nat):Rat:=Zl (brd A x n) s s n
def bil (A:Nat->Nat->Rat) (n:Nat) (x y:Nat->Rat):Rat:=Z4 n (fun s=>zV A n x s * zV A n y s / dQ A s)
section
variable {A:Nat->Nat->Rat} {n:Nat}
theorem Zux (x:Nat->Rat):bil A n x x=Zhr (brd A x n) n n:=by
 unfold bil Zhr zV
 exact Zx fun s hs=>by rw [Zod x hs]
end
theorem Zae {w:World} (t:TypeId) (cs:Array Value):∃ W,w.alloc (.cells cs t)=W/\Blk W w.heap.size t cs/\Below w.heap.size w W:=
 ⟨_,rfl,Blk.new _ _ _,(Below.refl _ _).alloc (Nat.le_refl _) _⟩
end Go.Proofs.YtaioanjcjijckaaGreat
