/- Systems of observations in memory: lists of int64, and -/
import Derived.Test.YtigdclhagmnopaaGreatZq15
import Derived.Test.YtigdclhagmnopaaGreatZq16
set_option maxRecDepth 100000
set_option maxHeartbeats 4000000
set_option linter.unusedSimpArgs false
set_option linter.unusedVariables false
namespace Go.Proofs.YtigdclhagmnopaaGreat
open Go.RowKit
attribute [local go_sem] Zh
structure RI where
 A:Option Addr
 n:Nat
 c:Nat
 l:List Int
def MIL (w:World) (A:Option Addr) (n c:Nat) (rs:List RI):Prop:=
 rs.length=n/\n <= c/\c <= maxLen/\(∀ r ∈ rs,LimI w r.A r.n r.c r.l)/\(0 < n->∃ g o,A=some ⟨g,o,none⟩/\∀ (k:Nat) (r:RI),rs[k]?=some r->w.cell? ⟨g,o+k,none⟩=some (.slice r.A r.n r.c))
section
variable {w w':World} {A:Option Addr} {n c:Nat} {rs:List RI}
theorem MIL.below (h:MIL w A n c rs) (hb:Below w.heap.size w w'):MIL w' A n c rs:=by
 obtain ⟨h1,h2,h3,h4,h5⟩:=h;refine ⟨h1,h2,h3,fun r hr=>(h4 r hr).below hb,fun hn=>?_⟩;obtain ⟨g,o,e,hc⟩:=h5 hn;exact ⟨g,o,e,fun k r hr=>(hb.cell (Zp (hc k r hr))).trans (hc k r hr)⟩
theorem MIL.at_ (h:MIL w A n c rs) {i:Nat} (hi:i < n):∃ g o r,A=some ⟨g,o,none⟩/\rs[i]?=some r/\w.cell? ⟨g,o+i,none⟩=some (.slice r.A r.n r.c)/\LimI w r.A r.n r.c r.l:=by
 obtain ⟨h1,h2,h3,h4,h5⟩:=h;obtain ⟨g,o,e,hc⟩:=h5 (by omega);obtain ⟨r,hr⟩:∃ r,rs[i]?=some r:=⟨_,List.getElem?_eq_getElem (by omega)⟩;exact ⟨g,o,r,e,hr,hc i r hr,h4 r (List.mem_of_getElem? hr)⟩
theorem LimI.nlen {l:List Int} (h:LimI w A n c l):n <= maxLen:=Nat.le_trans h.2.1 h.2.2.1
end
def Zgq (least x:Int):Bool:=decide (x < least) || decide (1099511627776 < x)
def Zda (least:Int) (l:List Int):Bool:=l.any (Zgq least)
theorem Ztt (x least:Int) (g:Nat) (w:World) (hc:w.cell? ⟨g,0,none⟩=some (.int .i64 least)) (b:Bool) (hb:Zgq least x=b) :
    Calls Tryz.prog 154 #[.int .i64 x,.pointer (some ⟨g,0,none⟩)] w fun e w'=>e=.returned (.bool b)/\Below w.heap.size w w':=by
 subst hb
 by_cases h1:x < least
 ·have t1:decide (x < least)=true:=decide_eq_true h1
  go_enter Tryz.func154,Tryz.ntmps154;go_wp2_with fail;go_ret;exact ⟨by simp [Zgq,t1],by first | exact Below.refl _ _ | exact Zf (Below.refl _ _) _⟩
 ·have t1:decide (x < least)=false:=decide_eq_false h1
  go_enter Tryz.func154,Tryz.ntmps154;go_wp2_with fail;go_ret;exact ⟨by simp [Zgq,t1],by first | exact Below.refl _ _ | exact Zf (Below.refl _ _) _⟩
theorem Zuq (A:Option Addr) (n c:Nat) (l:List Int) (least:Int) (p:Nat) (w:World) (h:LimI w A n c l) (hp:w.cell? ⟨p,0,none⟩=some (.int .i64 least)) (b:Bool) (hb:Zda least l=b) :
    Calls Tryz.prog 174 #[.slice A n c,.func (.func 154) #[] #[.pointer (some ⟨p,0,none⟩)]] w (IdxB w b):=by
 have hl:=h.1;have hnc:=h.2.1;have hcm:=h.2.2.1;unfold maxLen at hcm;have hg:=Za h.2.2.2.2;clear h;replace hl:=Za hl;replace hb:=Za hb;replace hp:=Za hp;go_enter Tryz.func174,Tryz.ntmps174;go_wp2_with fail
 go_loopw [8] (fun iv wr=>∃ i:Nat,i <= n/\iv=.int .i64 i/\Hid (∀ j,j < i->Zgq least (l[j]?.getD 0)=false)/\Below w.heap.size w wr) (fun iv _=>n - (intOf iv).toNat)
 case atStart=>exact ⟨0,Nat.zero_le _,rfl,Za (fun j hj=>by omega),Below.refl _ _⟩
 case round =>
  obtain ⟨i,hik,rfl,hall,hBp⟩:=hrel
  by_cases hin:i < n
  case neg =>
   obtain rfl:n=i:=by omega
   have htk:decide ((n:Int) < (n:Int))=false:=by simp
   obtain rfl:b=false:=by
    rw [<- hb.out];unfold Zda;rw [List.any_eq_false];intro e he;obtain ⟨j,hj,hje⟩:=List.getElem_of_mem he;have:=hall.out j (by rw [hl.out] at hj;exact hj);rw [List.getElem?_eq_getElem hj,hje] at this;simp only [Option.getD_some] at this;rw [this];decide
   go_wp2_with fail;go_ret;exact ⟨-1,rfl,rfl,hBp⟩
  have htk:decide ((i:Int) < (n:Int))=true:=decide_eq_true (by omega);obtain ⟨g,o,rfl,hcc⟩:=hg.out (by omega);have c0:=(hBp.cell (Zp (hcc i hin))).trans (hcc i hin);have hC:=Za (fun W1 (h1:Below wr.heap.size wr W1)=>Ztt (l[i]?.getD 0) least p W1 ((h1.cell (Nat.lt_of_lt_of_le (Zp hp.out) hBp.size)).trans ((hBp.cell (Zp hp.out)).trans hp.out)));clear hcc;obtain ⟨x,hx⟩:∃ x,Zgq least (l[i]?.getD 0)=x:=⟨_,rfl⟩
  cases x
  ·have hall2:Hid (∀ j,j < i+1->Zgq least (l[j]?.getD 0)=false):=Za (fun j hj=>by
     rcases Nat.lt_or_ge j i with h' | h'
     ·exact hall.out j h'
     ·obtain rfl:j=i:=by omega
      exact hx)
   replace hx:=Za hx
   generalize l[i]?.getD 0=z at *
   go_wp2_with fail;refine (hC.out _ (by first | exact Below.refl _ _ | exact Zf (Below.refl _ _) _) _ hx.out).mono ?_;rintro e' w1 ⟨rfl,hb1⟩;go_wp2_with fail
   go_roundw
   case rel=>exact ⟨i+1,by omega,by go_num,hall2,(by first | exact hBp.trans (hb1.mono hBp.size) | exact (Zf hBp _).trans (hb1.mono hBp.size))⟩
   case measure=>simp [intOf];omega
  ·obtain rfl:b=true:=by
     rw [<- hb.out];unfold Zda;rw [List.any_eq_true];refine ⟨l[i]?.getD 0,?_,hx⟩;have:=hl.out;rw [List.getElem?_eq_getElem (by omega)];exact List.getElem_mem _
   replace hx:=Za hx
   generalize l[i]?.getD 0=z at *
   go_wp2_with fail;refine (hC.out _ (by first | exact Below.refl _ _ | exact Zf (Below.refl _ _) _) _ hx.out).mono ?_;rintro e' w1 ⟨rfl,hb1⟩;go_wp2_with fail;go_ret;exact ⟨i,rfl,by simp,(by first | exact hBp.trans (hb1.mono hBp.size) | exact (Zf hBp _).trans (hb1.mono hBp.size))⟩
theorem Zsq (A:Option Addr) (n c:Nat) (l:List Int) (least:Int) (p:Nat) (w:World) (h:LimI w A n c l) (hp:w.cell? ⟨p,0,none⟩=some (.int .i64 least)) (b:Bool) (hb:Zda least l=b) :
    Calls Tryz.prog 153 #[.slice A n c,.func (.func 154) #[] #[.pointer (some ⟨p,0,none⟩)]] w fun e w'=>e=.returned (.bool b)/\Below w.heap.size w w':=by
 go_enter Tryz.func153,Tryz.ntmps153;go_wp2_with fail;refine (Zuq A n c l least p w h hp b hb).mono ?_;rintro e w1 ⟨i,rfl,hi,hb1⟩;replace hi:=Za hi;go_wp2_with fail;go_ret;exact ⟨Zi1 hi.out,hb1⟩
theorem Zgh (A:Option Addr) (n c:Nat) (l:List Int) (least:Int) (w:World) (h:LimI w A n c l) (b:Bool) (hb:Zda least l=b) :
    Calls Tryz.prog 111 #[.slice A n c,.int .i64 least] w fun e w'=>e=.returned (.bool b)/\Below w.heap.size w w':=by
 obtain ⟨W0,hW0,hB0,q0,s0⟩:=Zbr w 2 #[.int .i64 least];have q1:=(q0.cell 0:W0.cell? ⟨w.heap.size,0,none⟩=some (.int .i64 least));have hC:=Za (fun W1 (h1:Below W0.heap.size W0 W1)=>Zsq A n c l least w.heap.size W1 ((h.below hB0).below h1) ((h1.cell (Zp q1)).trans q1) b hb);clear h;go_enter Tryz.func111,Tryz.ntmps111;go_wp2_with fail;refine (hC.out _ (by first | exact Below.refl _ _ | exact Zf (Below.refl _ _) _)).mono ?_;rintro e w1 ⟨rfl,hb1⟩;go_wp2_with fail;go_ret;exact ⟨rfl,hB0.trans (hb1.mono hB0.size)⟩
theorem Ztg (A:Option Addr) (n c:Nat) (w:World) (hn:n <= maxLen) :
    Calls Tryz.prog 110 #[.slice A n c] w fun e w'=>e=.returned (.bool (decide (12 < n)))/\Below w.heap.size w w':=by
 unfold maxLen at hn;have hd:decide ((12:Int) < (n:Int))=decide (12 < n):=decide_eq_decide.2 (by omega);go_enter Tryz.func110,Tryz.ntmps110;go_wp2_with fail;go_ret;exact ⟨by first | rfl | simp [hd],by first | exact Below.refl _ _ | exact Zf (Below.refl _ _) _⟩
def RI.long (r:RI):Bool:=decide (12 < r.n)
theorem Zt9 (A:Option Addr) (n c:Nat) (rs:List RI) (w:World) (h:MIL w A n c rs) (b:Bool) (hb:rs.any RI.long=b) :
    Calls Tryz.prog 152 #[.slice A n c,.func (.func 110) #[] #[]] w (IdxB w b):=by
 have hl:=h.1;have hnc:=h.2.1;have hcm:=h.2.2.1;unfold maxLen at hcm;replace hl:=Za hl;replace hb:=Za hb;replace h:=Za h;go_enter Tryz.func152,Tryz.ntmps152;go_wp2_with fail
 go_loopw [8] (fun iv wr=>∃ i:Nat,i <= n/\iv=.int .i64 i/\Hid (∀ j e,j < i->rs[j]?=some e->e.long=false)/\Below w.heap.size w wr) (fun iv _=>n - (intOf iv).toNat)
 case atStart=>exact ⟨0,Nat.zero_le _,rfl,Za (fun j e hj=>by omega),Below.refl _ _⟩
 case round =>
  obtain ⟨i,hik,rfl,hall,hBp⟩:=hrel
  by_cases hin:i < n
  case neg =>
   obtain rfl:n=i:=by omega
   have htk:decide ((n:Int) < (n:Int))=false:=by simp
   obtain rfl:b=false:=by
    rw [<- hb.out,List.any_eq_false];intro e he;obtain ⟨j,hj,hje⟩:=List.getElem_of_mem he;have:=hall.out j e (by rw [hl.out] at hj;exact hj) (by rw [List.getElem?_eq_getElem hj,hje]);rw [this];decide
   go_wp2_with fail;go_ret;exact ⟨-1,rfl,rfl,hBp⟩
  have htk:decide ((i:Int) < (n:Int))=true:=decide_eq_true (by omega);obtain ⟨g,o,r,rfl,he,c0,hL⟩:=(h.out.below hBp).at_ hin;have hC:=Za (fun W1=>Ztg r.A r.n r.c W1 hL.nlen);clear hL
  by_cases hx:12 < r.n
  ·obtain rfl:b=true:=by
     rw [<- hb.out,List.any_eq_true];exact ⟨r,List.mem_of_getElem? he,by unfold RI.long;simpa using hx⟩
   rw [decide_eq_true hx] at hC;replace he:=Za he;go_wp2_with fail;refine (hC.out _).mono ?_;rintro e' w1 ⟨rfl,hb1⟩;go_wp2_with fail;go_ret;exact ⟨i,rfl,by simp,(by first | exact hBp.trans (hb1.mono hBp.size) | exact (Zf hBp _).trans (hb1.mono hBp.size))⟩
  ·have hall2:Hid (∀ j e,j < i+1->rs[j]?=some e->e.long=false):=Za (fun j e' hj he'=>by
     rcases Nat.lt_or_ge j i with h' | h'
     ·exact hall.out j e' h' he'
     ·obtain rfl:j=i:=by omega
      rw [he] at he'
      cases he'
      unfold RI.long;simpa using hx)
   rw [decide_eq_false hx] at hC;replace he:=Za he;go_wp2_with fail;refine (hC.out _).mono ?_;rintro e' w1 ⟨rfl,hb1⟩;go_wp2_with fail
   go_roundw
   case rel=>exact ⟨i+1,by omega,by go_num,hall2,(by first | exact hBp.trans (hb1.mono hBp.size) | exact (Zf hBp _).trans (hb1.mono hBp.size))⟩
   case measure=>simp [intOf];omega
theorem Zsk (A:Option Addr) (n c:Nat) (rs:List RI) (w:World) (h:MIL w A n c rs) (b:Bool) (hb:rs.any RI.long=b) :
    Calls Tryz.prog 109 #[.slice A n c,.func (.func 110) #[] #[]] w fun e w'=>e=.returned (.bool b)/\Below w.heap.size w w':=by
 go_enter Tryz.func109,Tryz.ntmps109;go_wp2_with fail;refine (Zt9 A n c rs w h b hb).mono ?_;rintro e w1 ⟨i,rfl,hi,hb1⟩;replace hi:=Za hi;go_wp2_with fail;go_ret;exact ⟨Zi1 hi.out,hb1⟩
def n0I (rs:List RI):Nat:=(rs[0]?.map RI.n).getD 0
def Zhg (k:Nat) (r:RI):Bool:=decide (r.n=k) && !Zda (-1099511627776) r.l
def Zdk (rs:List RI):Bool:=decide (200 < rs.length) || rs.any RI.long
def Zii (rs:List RI) (right weights:List Int):Bool:=
 !decide (n0I rs=0) && (decide (weights.length=rs.length) && (decide (right.length=rs.length) && (!Zda 1 weights && (!Zda (-1099511627776) right && rs.all (Zhg (n0I rs))))))
def Zb2 (rs:List RI) (right weights:List Int):Int:=if Zdk rs=true then 4 else if Zii rs right weights=true then 0 else 8
theorem Zm9 {rs:List RI} {a b:List Int} (h:Zdk rs=true):Zb2 rs a b=4:=by unfold Zb2;rw [if_pos h]
theorem Zvq {rs:List RI} {a b:List Int} (h:Zdk rs=false) (h0:Zii rs a b=false):Zb2 rs a b=8:=by unfold Zb2;rw [if_neg (by simp [h]),if_neg (by simp [h0])]
theorem Zo0 {rs:List RI} {a b:List Int} (h:Zdk rs=false) (h0:Zii rs a b=true):Zb2 rs a b=0:=by unfold Zb2;rw [if_neg (by simp [h]),if_pos h0]
theorem Zxa {rs:List RI} {r:RI} (h:rs[0]?=some r):n0I rs=r.n:=by unfold n0I;rw [h];rfl
theorem Zg6 (A B C:Option Addr) (n c m d k e0:Nat) (rs:List RI) (rr ws:List Int) (w:World) (h:MIL w A n c rs) (hr:LimI w B m d rr) (hw:LimI w C k e0 ws) (E:Int) (hE:Zb2 rs rr ws=E) :
    Calls Tryz.prog 60 #[.slice A n c,.slice B m d,.slice C k e0] w fun e w'=>e=.returned (.int .i64 E)/\Below w.heap.size w w':=by
 have hl:=h.1;have hnc:=h.2.1;have hcm:=h.2.2.1;have hrl:=hr.1;have hwl:=hw.1;have hrm:=hr.nlen;have hwm:=hw.nlen;unfold maxLen at hcm hrm hwm;replace hE:=Za hE
 by_cases h12:200 < n
 ·have t1:decide ((200:Int) < (n:Int))=true:=decide_eq_true (by omega)
  obtain rfl:E=4:=by rw [<- hE.out];exact Zm9 (by unfold Zdk;rw [hl,decide_eq_true h12];rfl)
  go_enter Tryz.func60,Tryz.ntmps60;go_wp2_with fail;go_ret;exact ⟨rfl,by first | exact Below.refl _ _ | exact Zf Below.refl _ _ _⟩
 have t1:decide ((200:Int) < (n:Int))=false:=decide_eq_false (by omega);obtain ⟨x,hx⟩:∃ x,rs.any RI.long=x:=⟨_,rfl⟩
 have hlm:Zdk rs=x:=by unfold Zdk;rw [hl,decide_eq_false h12,hx];rfl
 have hC:=Za (fun W1 (hb:Below w.heap.size w W1)=>Zsk A n c rs W1 (h.below hb) x hx);clear hx;replace hlm:=Za hlm
 cases x
 case true =>
  obtain rfl:E=4:=by rw [<- hE.out];exact Zm9 hlm.out
  clear h;go_enter Tryz.func60,Tryz.ntmps60;go_wp2_with fail;refine (hC.out _ (by first | exact Below.refl _ _ | exact Zf Below.refl _ _ _)).mono ?_;rintro e w1 ⟨rfl,hb1⟩
  have hB1:Below w.heap.size w w1:=by first | exact hb1 | exact (Below.refl _ _).trans (hb1.mono (Below.refl _ _).size) | exact (Zf (Below.refl _ _) _).trans (hb1.mono (Below.refl _ _).size)
  clear hb1;go_wp2_with fail;go_ret;exact ⟨rfl,by first | exact hB1 | exact Zf hB1 _⟩
 have hbad:Zii rs rr ws=false->E=8:=fun hf=>by rw [<- hE.out];exact Zvq hlm.out hf
 have hgood:Zii rs rr ws=true->E=0:=fun hf=>by rw [<- hE.out];exact Zo0 hlm.out hf
 unfold Zii at hbad hgood;rw [hrl,hwl,hl] at hbad hgood;replace hbad:=Za hbad;replace hgood:=Za hgood;clear hE
 by_cases hn0:n=0
 ·subst hn0
  obtain rfl:E=8:=hbad.out (by
   have:rs=[]:=List.eq_nil_of_length_eq_zero hl
   rw [this];rfl)
  clear h hgood hbad;go_enter Tryz.func60,Tryz.ntmps60;go_wp2_with fail;refine (hC.out _ (by first | exact Below.refl _ _ | exact Zf Below.refl _ _ _)).mono ?_;rintro e w1 ⟨rfl,hb1⟩
  have hB1:Below w.heap.size w w1:=by first | exact hb1 | exact (Below.refl _ _).trans (hb1.mono (Below.refl _ _).size) | exact (Zf (Below.refl _ _) _).trans (hb1.mono (Below.refl _ _).size)
  clear hb1;go_wp2_with fail;go_ret;exact ⟨rfl,by first | exact hB1 | exact Zf hB1 _⟩
 have t2:((n:Int) == 0)=false:=by simp;omega
 have t2':decide (n=0)=false:=by simpa using hn0
 obtain ⟨g,o,r0,rfl,he0,c0,hL0⟩:=h.at_ (i:=0) (by omega);have hr0l:=hL0.nlen;unfold maxLen at hr0l;have hn0':=Zxa he0;clear he0 hL0;rw [Nat.add_zero] at c0;have hbg:=Zp c0;rw [hn0'] at hbad hgood
 by_cases hz:r0.n=0
 ·obtain rfl:E=8:=hbad.out (by rw [decide_eq_true hz];rfl)
  have t3:((r0.n:Int) == 0)=true:=by simp [hz]
  have t3':decide (r0.n=0)=true:=by simpa using hz
  clear hbad hgood;replace h:=Za h;replace hn0':=Za hn0';replace hz:=Za hz;go_enter Tryz.func60,Tryz.ntmps60;go_wp2_with fail;refine (hC.out _ (by first | exact Below.refl _ _ | exact Zf Below.refl _ _ _)).mono ?_;rintro e w1 ⟨rfl,hb1⟩
  have hB1:Below w.heap.size w w1:=by first | exact hb1 | exact (Below.refl _ _).trans (hb1.mono (Below.refl _ _).size) | exact (Zf (Below.refl _ _) _).trans (hb1.mono (Below.refl _ _).size)
  clear hb1;have k1:=Zb hB1 c0;go_wp2_with fail;go_ret;exact ⟨rfl,by first | exact hB1 | exact Zf hB1 _⟩
 have t3:((r0.n:Int) == 0)=false:=by simpa using hz
 have t3':decide (r0.n=0)=false:=by simpa using hz
 rw [t3'] at hbad hgood;replace h:=Za h;replace hl:=Za hl;replace hrl:=Za hrl;replace hwl:=Za hwl;replace hn0':=Za hn0';replace hz:=Za hz
 by_cases hkn:k=n
 case neg =>
  have t4:((k:Int) == (n:Int))=false:=beq_eq_false_iff_ne.2 (by omega)
  have t4n:((k:Int) != (n:Int))=true:=by rw [bne,t4];rfl
  have t4':decide (k=n)=false:=by simpa using hkn
  obtain rfl:E=8:=hbad.out (by rw [t4'];rfl);clear hbad hgood;replace hkn:=Za hkn;go_enter Tryz.func60,Tryz.ntmps60;go_wp2_with fail;refine (hC.out _ (by first | exact Below.refl _ _ | exact Zf Below.refl _ _ _)).mono ?_;rintro e w1 ⟨rfl,hb1⟩
  have hB1:Below w.heap.size w w1:=by first | exact hb1 | exact (Below.refl _ _).trans (hb1.mono (Below.refl _ _).size) | exact (Zf (Below.refl _ _) _).trans (hb1.mono (Below.refl _ _).size)
  clear hb1;have k1:=Zb hB1 c0;go_wp2_with fail;go_ret;exact ⟨rfl,by first | exact hB1 | exact Zf hB1 _⟩
 have t4:((k:Int) == (n:Int))=true:=beq_iff_eq.2 (by omega)
 have t4n:((k:Int) != (n:Int))=false:=by rw [bne,t4];rfl
 have t4':decide (k=n)=true:=by simpa using hkn
 rw [Bool.not_false,Bool.true_and,t4',Bool.true_and] at hbad hgood;replace hkn:=Za hkn
 by_cases hmn:m=n
 case neg =>
  have t5:((m:Int) == (n:Int))=false:=beq_eq_false_iff_ne.2 (by omega)
  have t5n:((m:Int) != (n:Int))=true:=by rw [bne,t5];rfl
  have t5':decide (m=n)=false:=by simpa using hmn
  obtain rfl:E=8:=hbad.out (by rw [t5'];rfl);clear hbad hgood;replace hmn:=Za hmn;go_enter Tryz.func60,Tryz.ntmps60;go_wp2_with fail;refine (hC.out _ (by first | exact Below.refl _ _ | exact Zf Below.refl _ _ _)).mono ?_;rintro e w1 ⟨rfl,hb1⟩
  have hB1:Below w.heap.size w w1:=by first | exact hb1 | exact (Below.refl _ _).trans (hb1.mono (Below.refl _ _).size) | exact (Zf (Below.refl _ _) _).trans (hb1.mono (Below.refl _ _).size)
  clear hb1;have k1:=Zb hB1 c0;go_wp2_with fail;go_ret;exact ⟨rfl,by first | exact hB1 | exact Zf hB1 _⟩
 have t5:((m:Int) == (n:Int))=true:=beq_iff_eq.2 (by omega)
 have t5n:((m:Int) != (n:Int))=false:=by rw [bne,t5];rfl
 have t5':decide (m=n)=true:=by simpa using hmn
 rw [t5',Bool.true_and] at hbad hgood;replace hmn:=Za hmn;obtain ⟨xw,hxw⟩:∃ xw,Zda 1 ws=xw:=⟨_,rfl⟩;have hW:=Za (fun W1 (hb:Below w.heap.size w W1)=>Zgh C k e0 ws 1 W1 (hw.below hb) xw hxw);rw [hxw] at hbad hgood;clear hxw hw
 cases xw
 case true =>
  obtain rfl:E=8:=hbad.out rfl;clear hbad hgood;go_enter Tryz.func60,Tryz.ntmps60;go_wp2_with fail;refine (hC.out _ (by first | exact Below.refl _ _ | exact Zf Below.refl _ _ _)).mono ?_;rintro e w1 ⟨rfl,hb1⟩
  have hB1:Below w.heap.size w w1:=by first | exact hb1 | exact (Below.refl _ _).trans (hb1.mono (Below.refl _ _).size) | exact (Zf (Below.refl _ _) _).trans (hb1.mono (Below.refl _ _).size)
  clear hb1;have k1:=Zb hB1 c0;go_wp2_with fail;refine (hW.out _ (by first | exact hB1 | exact Zf hB1 _)).mono ?_;rintro e w2 ⟨rfl,hb2⟩
  have hB2:Below w.heap.size w w2:=by first | exact hb2 | exact (hB1).trans (hb2.mono (hB1).size) | exact (Zf (hB1) _).trans (hb2.mono (hB1).size)
  clear hb2;have k2:=Zb hB2 c0;go_wp2_with fail;go_ret;exact ⟨rfl,by first | exact hB2 | exact Zf hB2 _⟩
 rw [Bool.not_false,Bool.true_and] at hbad hgood;obtain ⟨xr,hxr⟩:∃ xr,Zda (-1099511627776) rr=xr:=⟨_,rfl⟩;have hR:=Za (fun W1 (hb:Below w.heap.size w W1)=>Zgh B m d rr (-1099511627776) W1 (hr.below hb) xr hxr);rw [hxr] at hbad hgood;clear hxr hr
 cases xr
 case true =>
  obtain rfl:E=8:=hbad.out rfl;clear hbad hgood;go_enter Tryz.func60,Tryz.ntmps60;go_wp2_with fail;refine (hC.out _ (by first | exact Below.refl _ _ | exact Zf Below.refl _ _ _)).mono ?_;rintro e w1 ⟨rfl,hb1⟩
  have hB1:Below w.heap.size w w1:=by first | exact hb1 | exact (Below.refl _ _).trans (hb1.mono (Below.refl _ _).size) | exact (Zf (Below.refl _ _) _).trans (hb1.mono (Below.refl _ _).size)
  clear hb1;have k1:=Zb hB1 c0;go_wp2_with fail;refine (hW.out _ (by first | exact hB1 | exact Zf hB1 _)).mono ?_;rintro e w2 ⟨rfl,hb2⟩
  have hB2:Below w.heap.size w w2:=by first | exact hb2 | exact (hB1).trans (hb2.mono (hB1).size) | exact (Zf (hB1) _).trans (hb2.mono (hB1).size)
  clear hb2;have k2:=Zb hB2 c0;go_wp2_with fail;refine (hR.out _ (by first | exact hB2 | exact Zf hB2 _)).mono ?_;rintro e w3 ⟨rfl,hb3⟩
  have hB3:Below w.heap.size w w3:=by first | exact hb3 | exact (hB2).trans (hb3.mono (hB2).size) | exact (Zf (hB2) _).trans (hb3.mono (hB2).size)
  clear hb3;have k3:=Zb hB3 c0;go_wp2_with fail;go_ret;exact ⟨rfl,by first | exact hB3 | exact Zf hB3 _⟩
 rw [Bool.not_false,Bool.true_and] at hbad hgood;go_enter Tryz.func60,Tryz.ntmps60;go_wp2_with fail;refine (hC.out _ (by first | exact Below.refl _ _ | exact Zf Below.refl _ _ _)).mono ?_;rintro e w1 ⟨rfl,hb1⟩
 have hB1:Below w.heap.size w w1:=by first | exact hb1 | exact (Below.refl _ _).trans (hb1.mono (Below.refl _ _).size) | exact (Zf (Below.refl _ _) _).trans (hb1.mono (Below.refl _ _).size)
 clear hb1;have k1:=Zb hB1 c0;go_wp2_with fail;refine (hW.out _ (by first | exact hB1 | exact Zf hB1 _)).mono ?_;rintro e w2 ⟨rfl,hb2⟩
 have hB2:Below w.heap.size w w2:=by first | exact hb2 | exact (hB1).trans (hb2.mono (hB1).size) | exact (Zf (hB1) _).trans (hb2.mono (hB1).size)
 clear hb2;have k2:=Zb hB2 c0;go_wp2_with fail;refine (hR.out _ (by first | exact hB2 | exact Zf hB2 _)).mono ?_;rintro e w3 ⟨rfl,hb3⟩
 have hB3:Below w.heap.size w w3:=by first | exact hb3 | exact (hB2).trans (hb3.mono (hB2).size) | exact (Zf (hB2) _).trans (hb3.mono (hB2).size)
 clear hb3;have k3:=Zb hB3 c0;go_wp2_with fail;clear hC hW hR hB1 hB2 k1 k2
 go_loopw [50] (fun iv wr=>∃ i:Nat,i <= n/\iv=.int .i64 i/\Hid (∀ j e,j < i->rs[j]?=some e->Zhg r0.n e=true)/\Below w.heap.size w wr) (fun iv _=>n - (intOf iv).toNat)
 case atStart=>exact ⟨0,Nat.zero_le _,rfl,Za (fun j e hj=>by omega),(by first | exact hB3 | exact Zf hB3 _)⟩
 case round =>
  clear k3 hB3;obtain ⟨i,hik,rfl,hall,hBp⟩:=hrel;have k0:=Zb hBp c0;clear c0
  by_cases hin:i < n
  case neg =>
   obtain rfl:n=i:=by omega
   have htk:decide ((n:Int) < (n:Int))=false:=by simp
   obtain rfl:E=0:=by
    refine hgood.out ?_;rw [List.all_eq_true];intro e he;obtain ⟨j,hj,hje⟩:=List.getElem_of_mem he;exact hall.out j e (by rw [hl.out] at hj;exact hj) (by rw [List.getElem?_eq_getElem hj,hje])
   clear hbad;go_wp2_with fail;go_ret;exact ⟨rfl,hBp⟩
  have htk:decide ((i:Int) < (n:Int))=true:=decide_eq_true (by omega);obtain ⟨g',o',r,hA,he,c1,hL⟩:=(h.out.below hBp).at_ hin
  cases hA
  have hrnl:=hL.nlen;unfold maxLen at hrnl
  have bad:Zhg r0.n r=false->E=8:=fun hf=>hbad.out (by
   rw [List.all_eq_false]
   exact ⟨r,List.mem_of_getElem? he,by rw [hf];decide⟩)
  have good:Zhg r0.n r=true->Hid (∀ j e,j < i+1->rs[j]?=some e->Zhg r0.n e=true):=fun hf=>Za (fun j e' hj he'=>by
   rcases Nat.lt_or_ge j i with h' | h'
   ·exact hall.out j e' h' he'
   ·obtain rfl:j=i:=by omega
    rw [he] at he'
    cases he'
    exact hf)
  replace bad:=Za bad;replace good:=Za good;replace he:=Za he;clear hbad
  by_cases hq:r.n=r0.n
  case neg =>
   have t6:((r.n:Int) == (r0.n:Int))=false:=beq_eq_false_iff_ne.2 (by omega)
   have t7:((r.n:Int) != (r0.n:Int))=true:=by rw [bne,t6];rfl
   have t6':decide (r.n=r0.n)=false:=by simpa using hq
   obtain rfl:E=8:=bad.out (by unfold Zhg;rw [t6'];rfl);clear hL hgood;go_wp2_with fail;go_ret;exact ⟨rfl,by first | exact hBp | exact Zf hBp _⟩
  have t6:((r.n:Int) == (r0.n:Int))=true:=beq_iff_eq.2 (by omega)
  have t7:((r.n:Int) != (r0.n:Int))=false:=by rw [bne,t6];rfl
  have t6':decide (r.n=r0.n)=true:=by simpa using hq
  obtain ⟨x,hx⟩:∃ x,Zda (-1099511627776) r.l=x:=⟨_,rfl⟩;have hC:=Za (fun W1 (hb:Below wr.heap.size wr W1)=>Zgh r.A r.n r.c r.l (-1099511627776) W1 (hL.below hb) x hx);replace hx:=Za hx;replace hq:=Za hq;clear hL
  cases x
  ·have hall2:=good.out (by unfold Zhg;rw [t6',hx.out];rfl)
   go_wp2_with fail;refine (hC.out _ (by first | exact Below.refl _ _ | exact Zf (Below.refl _ _) _)).mono ?_;rintro e' w4 ⟨rfl,hb4⟩;go_wp2_with fail
   go_roundw
   case rel=>exact ⟨i+1,by omega,by go_num,hall2,(by first | exact hBp.trans (hb4.mono hBp.size) | exact (Zf hBp _).trans (hb4.mono hBp.size))⟩
   case measure=>simp [intOf];omega
  ·obtain rfl:E=8:=bad.out (by unfold Zhg;rw [hx.out];simp)
   clear hgood;go_wp2_with fail;refine (hC.out _ (by first | exact Below.refl _ _ | exact Zf (Below.refl _ _) _)).mono ?_;rintro e' w4 ⟨rfl,hb4⟩;go_wp2_with fail;go_ret;exact ⟨rfl,(by first | exact hBp.trans (hb4.mono hBp.size) | exact (Zf hBp _).trans (hb4.mono hBp.size))⟩
def PolyL (w:World) (A:Option Addr) (n c:Nat) (xs:List Int):Prop:=∃ es,WL w A n c es/\es.map WE.num=xs/\∀ e ∈ es,e.ok=true
theorem WE.wd {w:World} {e:WE} (h:Lim w e.A e.n e.c e.l) (hk:e.ok=true):Wd w e.neg e.A e.n e.c e.num:=Wd.of_ok h hk
def Zan:List WE->List Value
 | []=>[]
 | e :: l=>.bool e.neg :: .slice e.A e.n e.c :: Zan l
def Zbl (es:List WE):Array Value:=(Zan es).toArray
theorem Za6 (es:List WE):(Zan es).length=es.length * 2:=by
 induction es with
 | nil=>rfl
 | cons e l ih=>simp only [Zan,List.length_cons,ih];omega
theorem Zl1 {es:List WE} {i:Nat} {e:WE} (h:es[i]?=some e):(Zan es)[i * 2]?=some (.bool e.neg)/\(Zan es)[i * 2+1]?=some (.slice e.A e.n e.c):=by
 induction es generalizing i with
 | nil=>simp at h
 | cons a l ih =>
  cases i with
  | zero=>simp at h;subst h;exact ⟨rfl,rfl⟩
  | succ i =>
   have:=ih (i:=i) (by simpa using h);rw [show (i+1) * 2=i * 2+1+1 by omega]
   simpa [Zan] using this
theorem Zr9 {es:List WE} {i:Nat} (e:WE) (h:i < es.length):((Zan es).set (i * 2) (.bool e.neg)).set (i * 2+1) (.slice e.A e.n e.c)=Zan (es.set i e):=by
 induction es generalizing i with
 | nil=>simp at h
 | cons a l ih =>
  cases i with
  | zero=>rfl
  | succ i =>
   have:=ih (i:=i) (by simpa using h);rw [show (i+1) * 2=i * 2+1+1 by omega];simp only [Zan,List.set_cons_succ,this]
theorem Zms (es:List WE):∀ (i x:Nat),(Zan es)[i]? ≠ some (limb x):=by
 induction es with
 | nil=>intro i x;simp [Zan]
 | cons a l ih =>
  intro i x
  match i with
  | 0=>simp [Zan]
  | 1=>simp [Zan]
  | i+2=>simpa [Zan] using ih i x
theorem Zir {es:List WE} {i:Nat} {e:WE} (h:es[i]?=some e):(Zbl es)[i * 2]?=some (.bool e.neg)/\(Zbl es)[i * 2+1]?=some (.slice e.A e.n e.c):=by
 simpa [Zbl] using Zl1 h
theorem Zrg {es:List WE} {i:Nat} (e:WE) (h:i < es.length):((Zbl es).setIfInBounds (i * 2) (.bool e.neg)).setIfInBounds (i * 2+1) (.slice e.A e.n e.c)=Zbl (es.set i e):=by
 unfold Zbl;rw [<- Zr9 e h];simp
theorem Zc2 (es:List WE):NoLimb (Zbl es):=fun i x=>by simpa [Zbl] using Zms es i x
theorem Zgr (es:List WE) (i:Nat) (b:Bool):NoLimb ((Zbl es).setIfInBounds i (.bool b)):=fun j x=>by
 rw [Array.getElem?_setIfInBounds]
 split
 ·split <;> simp
 ·exact Zc2 es j x
def POwn (t:TypeId) (w:World) (g:Nat) (xs:List Int):Prop:=
 ∃ es:List WE,Blk w g t (Zbl es)/\(∀ e ∈ es,Lim w e.A e.n e.c e.l/\e.ok=true)/\es.map WE.num=xs
section
variable {t:TypeId} {w w':World} {g:Nat} {xs:List Int}
theorem POwn.below (h:POwn t w g xs) (hb:Below w.heap.size w w'):POwn t w' g xs:=by
 obtain ⟨es,h1,h2,h3⟩:=h;exact ⟨es,Zc hb h1,fun e he=>⟨(h2 e he).1.below hb,(h2 e he).2⟩,h3⟩
theorem POwn.lt (h:POwn t w g xs):g < w.heap.size:=by obtain ⟨es,h1,_⟩:=h;exact h1.lt
theorem POwn.frozen (h:POwn t w g xs) (i:Nat):w.frozen? ⟨g,i,none⟩=false:=by obtain ⟨es,h1,_⟩:=h;exact h1.frozen i
theorem POwn.at_ (h:POwn t w g xs) {i:Nat} (hi:i < xs.length):∃ neg A n c,w.cell? ⟨g,i * 2,none⟩=some (.bool neg)/\w.cell? ⟨g,i * 2+1,none⟩=some (.slice A n c)/\Wd w neg A n c (xs[i]?.getD 0):=by
 obtain ⟨es,h1,h2,rfl⟩:=h
 have hl:i < es.length:=by simpa using hi
 have he:=List.getElem?_eq_getElem hl;have hc:=Zir he;have hm:=h2 es[i] (List.getElem_mem hl);refine ⟨es[i].neg,es[i].A,es[i].n,es[i].c,by rw [h1.cell];exact hc.1,by rw [h1.cell];exact hc.2,?_⟩;rw [List.getElem?_map,he];exact WE.wd hm.1 hm.2
theorem POwn.set_ (h:POwn t w g xs) {i:Nat} (hi:i < xs.length) {neg:Bool} {A:Option Addr} {n c:Nat} {z:Int} (hz:Wd w neg A n c z) :
    POwn t ((w.setCell ⟨g,i * 2,none⟩ (.bool neg)).setCell ⟨g,i * 2+1,none⟩ (.slice A n c)) g (xs.set i z):=by
 obtain ⟨es,h1,h2,rfl⟩:=h
 have hl:i < es.length:=by simpa using hi
 have hb1:Blk (w.setCell ⟨g,i * 2,none⟩ (.bool neg)) g t ((Zbl es).setIfInBounds (i * 2) (.bool neg)):=h1.set_ _ _;have hb2:=hb1.set_ (i * 2+1) (.slice A n c);have hs:=Zrg (es:=es) (i:=i) ⟨neg,A,n,c,digits z.natAbs⟩ hl;dsimp only at hs;rw [hs] at hb2
 have keep:∀ (A':Option Addr) (n' c':Nat) (l:List Nat),Lim w A' n' c' l->Lim ((w.setCell ⟨g,i * 2,none⟩ (.bool neg)).setCell ⟨g,i * 2+1,none⟩ (.slice A n c)) A' n' c' l:=fun _ _ _ _ h=>(h.set_box h1 (Zc2 es) _ _).set_box hb1 (Zgr _ _ _) _ _
 refine ⟨_,hb2,fun e he=>?_,?_⟩
 ·rcases List.mem_or_eq_of_mem_set he with he | rfl
  ·exact ⟨keep _ _ _ _ (h2 e he).1,(h2 e he).2⟩
  ·exact ⟨keep _ _ _ _ hz.2.2,hz.ok⟩
 ·rw [List.map_set];congr 1;exact hz.sgEq
end
def Zcj:WE:=⟨false,none,0,0,[]⟩
theorem Zkf (n:Nat):Zan (List.replicate n Zcj)=(madeCells #[.bool false,.slice none 0 0] (n * 2)).toList:=by
 apply List.ext_getElem?
 intro i
 have hm:(madeCells #[.bool false,.slice none 0 0] (n * 2)).toList[i]?=if i < n * 2 then some ((#[Value.bool false,Value.slice none 0 0])[i % 2]!) else none:=by
  unfold madeCells
  by_cases h:i < n * 2
  ·simp [h]
  ·simp [h]
 rw [hm]
 by_cases h:i < n * 2
 ·rw [if_pos h]
  have he:(List.replicate n Zcj)[i / 2]?=some Zcj:=by rw [List.getElem?_replicate,if_pos (by omega)]
  have hc:=Zl1 he
  rcases Nat.mod_two_eq_zero_or_one i with h2 | h2
  ·rw [show i / 2 * 2=i by omega] at hc;rw [hc.1,h2];rfl
  ·rw [show i / 2 * 2+1=i by omega] at hc;rw [hc.2,h2];rfl
 ·rw [if_neg h]
  exact List.getElem?_eq_none (by rw [Za6];simp;omega)
theorem makeW {P:Program} (t e:TypeId) {i:TypeInfo} (ht:P.underlying t=some (.slice e)) (hi:P.info? e=some i) (hz:i.zero=some (.agg #[.bool false,.slice none 0 0])) (hs:i.size=2) (hb:i.bytes=32)
    (x:Int) (n:Nat) (hx:x=n) (hn:n <= 1000000000000) (W:World) :
    (Instr.makeSlice t (.int .i64 x) (.int .i64 x)).run P W=.ok (.slice (some ⟨W.heap.size,0,none⟩) n n) (W.alloc (.cells (Zbl (List.replicate n Zcj)) e)):=by
 subst hx;have hr:=run_make (P:=P) W t e i _ ht hi hz .i64 .i64 n n (by omega) (by omega) (by rw [hb];omega) (by omega);simp only [Int.toNat_natCast] at hr;rw [hr]
 have:madeCells (Value.agg #[.bool false,.slice none 0 0]).cells (n * i.size)=Zbl (List.replicate n Zcj):=by
  rw [hs]
  apply Array.toList_inj.1
  unfold Zbl;rw [Zkf]
  rfl
 rw [this]
theorem POwn.new (t:TypeId) (w:World) (n:Nat):POwn t (w.alloc (.cells (Zbl (List.replicate n Zcj)) t)) w.heap.size (List.replicate n 0):=
 ⟨List.replicate n Zcj,Blk.new _ _ _,fun e he=>by rw [(List.mem_replicate.1 he).2];exact ⟨Lim.nil _ _ _ (Nat.zero_le _),rfl⟩,by simp [Zcj,WE.num,sg,val]⟩
structure Kept (G:Nat->Prop) (w w':World):Prop where
 os:w'.os=w.os
 tape:w'.tape=w.tape
 output:w'.output=w.output
 size:w.heap.size <= w'.heap.size
 block:∀ k,k < w.heap.size->¬ G k->w'.heap[k]?=w.heap[k]?
section
variable {G:Nat->Prop} {w w' w'':World}
theorem Kept.refl (G:Nat->Prop) (w:World):Kept G w w:=⟨rfl,rfl,rfl,Nat.le_refl _,fun _ _ _=>rfl⟩
theorem Kept.trans (h:Kept G w w') (k:Kept G w' w''):Kept G w w'':=
 ⟨k.os.trans h.os,k.tape.trans h.tape,k.output.trans h.output,Nat.le_trans h.size k.size,fun i hi hg=>(k.block i (Nat.lt_of_lt_of_le hi h.size) hg).trans (h.block i hi hg)⟩
theorem Kept.of_below (h:Below w.heap.size w w'):Kept G w w':=⟨h.os,h.tape,h.output,h.size,fun k hk _=>h.block k hk⟩
theorem Kept.below (h:Kept G w w') (k:Below w'.heap.size w' w''):Kept G w w'':=h.trans (Kept.of_below k)
theorem Kept.drewN (h:Kept G w w') (n:Nat):Kept G w (w'.drewN n):=⟨h.os,h.tape,h.output,h.size,h.block⟩
theorem Kept.set_ (h:Kept G w w') {p:Addr} (hp:G p.block \/ w.heap.size <= p.block) (u:Value):Kept G w (w'.setCell p u):=
 ⟨h.os,h.tape,h.output,by simp [World.setCell];exact h.size,fun k hk hg=>(Below.heap_setCell w' p u k (by rcases hp with hp | hp;exact fun e=>hg (e ▸ hp);omega)).trans (h.block k hk hg)⟩
theorem Kept.blk (h:Kept G w w') {g:Nat} {t:TypeId} {cs:Array Value} (hb:Blk w g t cs) (hg:¬ G g):Blk w' g t cs:=(h.block g hb.lt hg).trans hb
theorem Kept.to_below {B:Nat} (h:Kept G w w') (hG:∀ k,G k->B <= k) (hB:B <= w.heap.size):Below B w w':=
 ⟨h.os,h.tape,h.output,h.size,fun k hk=>h.block k (Nat.lt_of_lt_of_le hk hB) (fun hg=>by have:=hG k hg;omega)⟩
theorem Kept.mono {G':Nat->Prop} (h:Kept G w w') (hG:∀ k,k < w.heap.size->G k->G' k):Kept G' w w':=⟨h.os,h.tape,h.output,h.size,fun k hk hg=>h.block k hk (fun h=>hg (hG k hk h))⟩
theorem Kept.lim (h:Kept G w w') {A:Option Addr} {n c:Nat} {l:List Nat} (hl:Lim w A n c l) (hG:∀ k,G k->∃ t cs,Blk w k t cs/\NoLimb cs):Lim w' A n c l:=
 ⟨hl.1,hl.2.1,hl.2.2.1,hl.2.2.2.1,fun hn=>by
  obtain ⟨b,o,e,hc⟩:=hl.2.2.2.2 hn;refine ⟨b,o,e,fun k hk=>?_⟩;have h0:=hc k hk;refine (World.cell?_of_block (w:=w) (h.block b (Zp h0) (fun hg=>?_))).trans h0;obtain ⟨t,cs,h1,h2⟩:=hG b hg;have h3:=h0;rw [h1.cell] at h3
  exact h2 _ _ h3⟩
theorem Kept.wd (h:Kept G w w') {neg:Bool} {A:Option Addr} {n c:Nat} {z:Int} (hl:Wd w neg A n c z) (hG:∀ k,G k->∃ t cs,Blk w k t cs/\NoLimb cs):Wd w' neg A n c z:=⟨hl.1,hl.2.1,h.lim hl.2.2 hG⟩
end
section
variable {t:TypeId} {w:World} {g:Nat} {xs zs:List Int}
theorem POwn.box (h:POwn t w g xs):∃ t cs,Blk w g t cs/\NoLimb cs:=by
 obtain ⟨es,h1,-,-⟩:=h;exact ⟨t,_,h1,Zc2 es⟩
theorem POwn.other {t':TypeId} {g':Nat} {ys:List Int} (h:POwn t w g xs) (h':POwn t' w g' ys) (hne:g ≠ g') (i:Nat) (b:Bool) (A:Option Addr) (n c:Nat) :
    POwn t ((w.setCell ⟨g',i * 2,none⟩ (.bool b)).setCell ⟨g',i * 2+1,none⟩ (.slice A n c)) g xs:=by
 obtain ⟨es,h1,h2,h3⟩:=h;obtain ⟨fs,k1,-,-⟩:=h';refine ⟨es,(h1.far hne _).far hne _,fun e he=>⟨?_,(h2 e he).2⟩,h3⟩;exact ((h2 e he).1.set_box k1 (Zc2 fs) _ _).set_box (k1.set_ (i * 2) (.bool b)) (Zgr _ _ _) _ _
end
theorem Zr5 {es:List FE} {i:Nat} (e:FE) (h:i < es.length):((((Zq es).set (i * 4) (.bool e.na)).set (i * 4+1) (.slice e.A e.n e.c)).set (i * 4+2) (.bool e.nb)).set (i * 4+3) (.slice e.B e.m e.d)=Zq (es.set i e):=by
 induction es generalizing i with
 | nil=>simp at h
 | cons a l ih =>
  cases i with
  | zero=>rfl
  | succ i =>
   have:=ih (i:=i) (by simpa using h);rw [show (i+1) * 4=i * 4+1+1+1+1 by omega];simp only [Zq,List.set_cons_succ,this]
theorem Zpf {es:List FE} {i:Nat} (e:FE) (h:i < es.length):((((Z8 es).setIfInBounds (i * 4) (.bool e.na)).setIfInBounds (i * 4+1) (.slice e.A e.n e.c)).setIfInBounds (i * 4+2) (.bool e.nb)).setIfInBounds (i * 4+3) (.slice e.B e.m e.d)=Z8 (es.set i e):=by
 unfold Z8;rw [<- Zr5 e h];simp
theorem Zfv {cs:Array Value} (h:NoLimb cs) (i:Nat) {v:Value} (hv:∀ x,v ≠ limb x):NoLimb (cs.setIfInBounds i v):=fun j x=>by
 rw [Array.getElem?_setIfInBounds]
 split
 ·split
  ·simpa using hv x
  ·simp
 ·exact h j x
def setF (w:World) (g i:Nat) (na:Bool) (A:Option Addr) (n c:Nat) (nb:Bool) (B:Option Addr) (m d:Nat):World:=
 (((w.setCell ⟨g,i * 4,none⟩ (.bool na)).setCell ⟨g,i * 4+1,none⟩ (.slice A n c)).setCell ⟨g,i * 4+2,none⟩ (.bool nb)).setCell ⟨g,i * 4+3,none⟩ (.slice B m d)
section
variable {w:World} {g i:Nat} {na:Bool} {A:Option Addr} {n c:Nat} {nb:Bool} {B:Option Addr} {m d:Nat}
theorem Zqh {A':Option Addr} {n' c':Nat} {l:List Nat} {t:TypeId} {cs:Array Value} (h:Lim w A' n' c' l) (hb:Blk w g t cs) (hcs:NoLimb cs):Lim (setF w g i na A n c nb B m d) A' n' c' l:=by
 have h1:=hb.set_ (i * 4) (.bool na);have l1:=Zfv hcs (i * 4) (v:=.bool na) (fun x=>by simp);have h2:=h1.set_ (i * 4+1) (.slice A n c);have l2:=Zfv l1 (i * 4+1) (v:=.slice A n c) (fun x=>by simp);have h3:=h2.set_ (i * 4+2) (.bool nb);have l3:=Zfv l2 (i * 4+2) (v:=.bool nb) (fun x=>by simp);exact (((h.set_box hb hcs _ _).set_box h1 l1 _ _).set_box h2 l2 _ _).set_box h3 l3 _ _
theorem Zta {na':Bool} {A':Option Addr} {n' c':Nat} {nb':Bool} {B':Option Addr} {m' d':Nat} {r:Rat} {t:TypeId} {cs:Array Value} (h:Fr w na' A' n' c' nb' B' m' d' r) (hb:Blk w g t cs) (hcs:NoLimb cs):Fr (setF w g i na A n c nb B m d) na' A' n' c' nb' B' m' d' r:=
 ⟨⟨h.1.1,h.1.2.1,Zqh h.1.2.2 hb hcs⟩,⟨h.2.1,h.2.2.1,Zqh h.2.2.2 hb hcs⟩⟩
theorem Zls {b:Nat} {w0:World} (h:Below b w0 w) (hg:b <= g):Below b w0 (setF w g i na A n c nb B m d):=
 (((h.setCell (p:=⟨g,i * 4,none⟩) hg _).setCell (p:=⟨g,i * 4+1,none⟩) hg _).setCell (p:=⟨g,i * 4+2,none⟩) hg _).setCell (p:=⟨g,i * 4+3,none⟩) hg _
end
def FRaw (t:TypeId) (w:World) (g n:Nat):Prop:=∃ es:List FE,Blk w g t (Z8 es)/\n <= es.length
def FOwn (t:TypeId) (w:World) (g:Nat) (qs:List Rat):Prop:=∃ es zs:List FE,Blk w g t (Z8 (es ++ zs))/\(∀ e ∈ es,e.in_ w)/\es.map FE.q=qs
section
variable {t:TypeId} {w w':World} {g:Nat} {qs:List Rat}
theorem FRaw.lt {n:Nat} (h:FRaw t w g n):g < w.heap.size:=by obtain ⟨es,h1,h2⟩:=h;exact h1.lt
theorem FRaw.frozen {n:Nat} (h:FRaw t w g n) (i:Nat):w.frozen? ⟨g,i,none⟩=false:=by obtain ⟨es,h1,-⟩:=h;exact h1.frozen i
theorem FOwn.raw (h:FOwn t w g qs):FRaw t w g qs.length:=by obtain ⟨es,zs,h1,h2,rfl⟩:=h;exact ⟨es ++ zs,h1,by simp⟩
theorem FOwn.below (h:FOwn t w g qs) (hb:Below w.heap.size w w'):FOwn t w' g qs:=by
 obtain ⟨es,zs,h1,h2,h3⟩:=h;exact ⟨es,zs,Zc hb h1,fun e he=>(h2 e he).below hb,h3⟩
theorem FOwn.lt (h:FOwn t w g qs):g < w.heap.size:=h.raw.lt
theorem FOwn.frozen (h:FOwn t w g qs) (i:Nat):w.frozen? ⟨g,i,none⟩=false:=h.raw.frozen i
theorem FOwn.at_ (h:FOwn t w g qs) {i:Nat} (hi:i < qs.length):∃ na A k c nb B m d,w.cell? ⟨g,i * 4,none⟩=some (.bool na)/\w.cell? ⟨g,i * 4+1,none⟩=some (.slice A k c)/\w.cell? ⟨g,i * 4+2,none⟩=some (.bool nb)/\w.cell? ⟨g,i * 4+3,none⟩=some (.slice B m d)/\Fr w na A k c nb B m d (qs[i]?.getD 0):=by
 obtain ⟨es,zs,h1,h2,rfl⟩:=h
 have hl:i < es.length:=by simpa using hi
 have he:=List.getElem?_eq_getElem hl;have hc:=Zhi (es:=es ++ zs) (i:=i) (e:=es[i]) (by rw [List.getElem?_append_left hl];exact he);refine ⟨_,_,_,_,_,_,_,_,by rw [h1.cell];exact hc.1,by rw [h1.cell];exact hc.2.1,by rw [h1.cell];exact hc.2.2.1,by rw [h1.cell];exact hc.2.2.2,?_⟩;rw [List.getElem?_map,he];exact h2 _ (List.getElem_mem hl)
theorem FOwn.set_ (h:FOwn t w g qs) {i:Nat} (hi:i < qs.length) {na:Bool} {A:Option Addr} {k c:Nat} {nb:Bool} {B:Option Addr} {m d:Nat} {r:Rat} (hr:Fr w na A k c nb B m d r):FOwn t (setF w g i na A k c nb B m d) g (qs.set i r):=by
 obtain ⟨es,zs,h1,h2,rfl⟩:=h
 have hl:i < es.length:=by simpa using hi
 have h3:=(((h1.set_ (i * 4) (.bool na)).set_ (i * 4+1) (.slice A k c)).set_ (i * 4+2) (.bool nb)).set_ (i * 4+3) (.slice B m d);have hs:=Zpf (es:=es ++ zs) (i:=i) ⟨na,A,k,c,nb,B,m,d,r⟩ (by rw [List.length_append];omega);dsimp only at hs;rw [hs,List.set_append_left _ _ hl] at h3;refine ⟨_,zs,h3,fun e he=>?_,by rw [List.map_set]⟩
 rcases List.mem_or_eq_of_mem_set he with he | rfl
 ·exact Zta (h2 e he) h1 (Zdu _)
 ·exact Zta hr h1 (Zdu _)
theorem FOwn.fl (h:FOwn t w g qs) {c:Nat} (hc:qs.length <= c) (hm:c <= maxLen):FL w (some ⟨g,0,none⟩) qs.length c qs:=by
 obtain ⟨es,zs,h1,h2,rfl⟩:=h;rw [List.length_map] at hc ⊢;refine ⟨es,rfl,hc,hm,h2,rfl,fun _=>⟨g,0,rfl,fun k e he=>?_⟩⟩;have hk:k < es.length:=(List.getElem?_eq_some_iff.1 he).1;have hc:=Zhi (es:=es ++ zs) (i:=k) (e:=e) (by rw [List.getElem?_append_left hk];exact he);simp only [Nat.zero_add,h1.cell];exact hc
theorem OwnF.fown {base:Nat} {v:Value} (h:OwnF t w base v qs):(v=.slice none 0 0/\qs=[]) \/ ∃ g c,v=.slice (some ⟨g,0,none⟩) qs.length c/\base <= g/\qs.length <= c/\c <= maxLen/\FOwn t w g qs:=by
 obtain ⟨es,h1,h2,rfl⟩:=h
 rcases h1 with ⟨rfl,rfl⟩ | ⟨g,sp,rfl,h4,h5,h6⟩
 ·exact .inl ⟨rfl,rfl⟩
 ·exact .inr ⟨g,_,by rw [List.length_map],h4,by rw [List.length_map];omega,h5,es,List.replicate sp Zax,h6,h2,rfl⟩
end
theorem Zw4 {t:Array Value} {d:Nat} {u:Value} (h:t[d]?=some u):t.setIfInBounds d u=t:=by
 apply Array.ext
 ·simp
 ·intro i h1 h2
  rw [Array.getElem_setIfInBounds (by simpa using h1)]
  split
  ·rename_i e
   subst e;rw [Array.getElem?_eq_getElem h2] at h
   injection h with h
   exact h.symm
  ·rfl
section
variable {P:Program} {ops:Array Oper} {Q:Exit->Act->World->Prop} {md:Region.Mode} {L:List Nat} {S:World->Prop} {f1 f2 d1 d2 F:Nat} {t1 t2:TypeId} {z1 z2:Array Value}
theorem Zl {i:Nat} {o:Oper} {K:Act->World->Prop} {a:Act} {w:World} (ho:ops[i]?=some o)
    (h:∀ K':Act->World->Prop,Shut (∀ a w,K a w->K' a w)->if Region.wanted o (yielded ops a.tmps)=true then Oper.wp P o a w K' Q else K' (a.put o.dst undef) w):wpOp P ops Q i K a w:=
 wpOp_step ho (fun K' hK=>h K' hK)
end
def Za8 (md:Region.Mode) (ops:Array Oper) (i:Nat):List Nat:=match ops[i]? with | some o=>(o.after.toList.filter (fun e=>Region.binds md e)).map (·.on) | none=>[]
def Zbc (ops:Array Oper) (i:Nat):Nat:=match ops[i]? with | some o=>o.dst.getD 0 | none=>0
def Zbj (R:List Nat) (l:Array Bool):Array Bool:=R.foldl (fun l i=>l.setIfInBounds i true) l
def clo (md:Region.Mode) (ops:Array Oper):List Nat->List Nat->List Nat
 | [],c=>c
 | r :: rs,c=>clo md ops rs (if c.contains r then Za8 md ops r ++ c else c)
def Zb1:List Nat->Bool
 | []=>true
 | x :: l=>!l.contains x && Zb1 l
def Zaw:List Nat->Act->(Nat->Value)->Act
 | [],a,_=>a
 | d :: ds,a,ν=>Zaw ds (a.put (some d) (ν d)) ν
def upd (ν:Nat->Value) (d:Nat) (v:Value):Nat->Value:=fun k=>if k=d then v else ν k
theorem Zvv {a:Act} {d e:Nat} {u v:Value} (h:d ≠ e):(a.put (some d) u).put (some e) v=(a.put (some e) v).put (some d) u:=by
 simp only [Act.put];rw [Array.setIfInBounds_comm _ _ h]
theorem Ztn {ds:List Nat} {a:Act} {ν:Nat->Value} {d:Nat} {v:Value} (h:d ∉ ds):Zaw ds (a.put (some d) v) ν=(Zaw ds a ν).put (some d) v:=by
 induction ds generalizing a with
 | nil=>rfl
 | cons e ds ih =>
  have h1:d ≠ e:=fun h'=>h (h' ▸ List.mem_cons_self ..)
  show Zaw ds ((a.put (some d) v).put (some e) (ν e)) ν=_;rw [Zvv h1,ih (fun h'=>h (List.mem_cons_of_mem _ h'))]
  rfl
theorem Zml {ds:List Nat} {a:Act} {ν:Nat->Value} {d:Nat} {v:Value} (h:d ∉ ds):Zaw ds a (upd ν d v)=Zaw ds a ν:=by
 induction ds generalizing a with
 | nil=>rfl
 | cons e ds ih =>
  have h1:e ≠ d:=fun h'=>h (h' ▸ List.mem_cons_self ..)
  show Zaw ds (a.put (some e) (upd ν d v e)) (upd ν d v)=Zaw ds (a.put (some e) (ν e)) ν;rw [ih (fun h'=>h (List.mem_cons_of_mem _ h'))];simp only [upd,if_neg h1]
theorem put_put {a:Act} {d:Nat} {u v:Value}:(a.put (some d) u).put (some d) v=a.put (some d) v:=by
 simp only [Act.put];rw [Array.setIfInBounds_setIfInBounds]
theorem Zbx {x:Nat} {l:List Nat} (h:Zb1 (x :: l)=true):x ∉ l/\Zb1 l=true:=by
 simp only [Zb1,Bool.and_eq_true,Bool.not_eq_true'] at h;exact ⟨fun hx=>by rw [List.contains_iff_mem.2 hx] at h;exact absurd h.1 (by simp),h.2⟩
theorem Zkc {ds:List Nat} {a:Act} {ν:Nat->Value} {d:Nat} {v:Value} (h:d ∈ ds) (hn:Zb1 ds=true):(Zaw ds a ν).put (some d) v=Zaw ds a (upd ν d v):=by
 induction ds generalizing a with
 | nil=>cases h
 | cons e ds ih =>
  obtain ⟨h1,h2⟩:=Zbx hn;show (Zaw ds (a.put (some e) (ν e)) ν).put (some d) v=Zaw ds (a.put (some e) (upd ν d v e)) (upd ν d v)
  by_cases hd:d=e
  ·subst hd
   rw [<- Ztn h1,put_put,Zml h1];simp only [upd,if_true]
  ·rcases List.mem_cons.1 h with h' | h'
   ·exact absurd h' hd
   ·rw [ih h' h2]
    simp only [upd,if_neg (Ne.symm hd)]
theorem Zq8 {ds:List Nat} {a:Act}:Zaw ds a (fun d=>a.tmps.getD d undef)=a:=by
 induction ds with
 | nil=>rfl
 | cons d ds ih =>
  show Zaw ds (a.put (some d) (a.tmps.getD d undef)) _=a
  have:a.put (some d) (a.tmps.getD d undef)=a:=by
   cases a with
   | mk t df =>
    simp only [Act.put]
    congr 1
    rcases Nat.lt_or_ge d t.size with h | h
    ·exact Zw4 (by rw [Array.getD_eq_getD_getElem?,Array.getElem?_eq_getElem h];rfl)
    ·exact Array.setIfInBounds_eq_of_size_le h
  rw [this];exact ih
theorem Zb9 (R:List Nat) (l:Array Bool) (k:Nat):(Zbj R l).getD k true=if k ∈ R then true else l.getD k true:=by
 unfold Zbj
 induction R generalizing l with
 | nil=>simp
 | cons r R ih =>
  rw [List.foldl_cons,ih]
  by_cases h1:k ∈ R
  ·rw [if_pos h1,if_pos (List.mem_cons_of_mem _ h1)]
  ·rw [if_neg h1]
   by_cases h2:k=r
   ·subst h2
    rw [if_pos (List.mem_cons_self ..)];rw [Array.getD_eq_getD_getElem?,Array.getElem?_setIfInBounds]
    split
    ·split <;> rfl
    ·rename_i h;exact absurd rfl h
   ·rw [if_neg (fun h=>by rcases List.mem_cons.1 h with h | h;exact h2 h;exact h1 h),Go.getD_set_ne true (Ne.symm h2)]
theorem Zga (R:List Nat) (l:Array Bool):(Zbj R l).size=l.size:=by
 unfold Zbj
 induction R generalizing l with
 | nil=>rfl
 | cons r R ih=>rw [List.foldl_cons,ih];simp
theorem Zrj {l m:Array Bool} (hs:l.size=m.size) (h:∀ k,l.getD k true=m.getD k true):l=m:=by
 apply Array.ext hs
 intro i h1 h2;have:=h i;rw [Array.getD_eq_getD_getElem?,Array.getD_eq_getD_getElem?,Array.getElem?_eq_getElem h1,Array.getElem?_eq_getElem h2] at this;exact this
section
variable {P:Program} {ops:Array Oper} {Q:Exit->Act->World->Prop} {md:Region.Mode} {L:List Nat} {S:World->Prop}
theorem Zq3 {l:Array Bool} {R:List Nat} (hd:∀ r ∈ R,l.getD r false=true->∀ p ∈ Za8 md ops r,l.getD p false=true) :
    ∀ (rs:List Nat) (c:List Nat),(∀ r ∈ rs,r ∈ R)->(∀ x ∈ c,l.getD x false=true)->∀ x ∈ clo md ops rs c,l.getD x false=true
 | [],c,_,hc,x,hx=>hc x hx
 | r :: rs,c,hr,hc,x,hx=>by
  refine Zq3 hd rs _ (fun y hy=>hr y (List.mem_cons_of_mem _ hy)) (fun y hy=>?_) x hx
  split at hy
  ·rename_i h1
   rcases List.mem_append.1 hy with h2 | h2
   ·exact hd r (hr r (List.mem_cons_self ..)) (hc r (List.contains_iff_mem.1 h1)) y h2
   ·exact hc y h2
  ·exact hc y hy
theorem Zeg {l:Array Bool} {k:Nat} (h:l.getD k false=true):l.getD k true=true:=by
 rw [Array.getD_eq_getD_getElem?] at h ⊢
 cases hk:l[k]? with
 | none=>rfl
 | some b=>rw [hk] at h;exact h
theorem Zat {l:Array Bool} {k j:Nat} (h:l.getD k false=true):(l.setIfInBounds j true).getD k false=true:=by
 by_cases hkj:j=k
 ·subst hkj
  rw [Array.getD_eq_getD_getElem?,Array.getElem?_setIfInBounds_self];rw [Array.getD_eq_getD_getElem?] at h
  split
  ·rfl
  ·rename_i h1;rw [Array.getElem?_eq_none (by omega)] at h;cases h
 ·rw [Go.getD_set_ne false hkj];exact h
theorem Zle {i:Nat} {l:Array Bool} (h:i ∈ Region.ready md ops l):l.getD i true=false/\i < ops.size/\∀ p ∈ Za8 md ops i,l.getD p false=true:=by
 obtain ⟨h1,o,ho,h2⟩:=mem_ready.1 h;refine ⟨h1,(Array.getElem?_eq_some_iff.1 ho).1,fun p hp=>?_⟩;unfold Za8 at hp;rw [ho] at hp;obtain ⟨e,he,rfl⟩:=List.mem_map.1 hp;rw [List.mem_filter] at he;exact h2 e (by simpa using he.1) he.2
theorem Zhd {i:Nat} {l:Array Bool} (h1:l.getD i true=false) {o:Oper} (ho:ops[i]?=some o) (h:∀ p ∈ Za8 md ops i,l.getD p false=true):i ∈ Region.ready md ops l:=by
 refine mem_ready.2 ⟨h1,o,ho,fun e he hb=>h _ ?_⟩;unfold Za8;rw [ho];exact List.mem_map.2 ⟨e,List.mem_filter.2 ⟨by simpa using he,hb⟩,rfl⟩
def Zec (R:List Nat) (l:Array Bool):Nat:=(R.filter fun r=>!l.getD r true).length
theorem Zlf {f:Nat->Nat}:∀ {R:List Nat},Zb1 (R.map f)=true->Zb1 R=true
 | [],_=>rfl
 | r :: R,h=>by
  obtain ⟨h1,h2⟩:=Zbx (x:=f r) (l:=R.map f) h;simp only [Zb1,Bool.and_eq_true,Bool.not_eq_true'];refine ⟨?_,Zlf h2⟩
  cases hc:R.contains r with
  | false=>rfl
  | true=>exact absurd (List.mem_map.2 ⟨r,List.contains_iff_mem.1 hc,rfl⟩) h1
theorem Zfh {f:Nat->Nat}:∀ {R:List Nat},Zb1 (R.map f)=true->∀ {r i:Nat},r ∈ R->i ∈ R->r ≠ i->f r ≠ f i
 | [],_,_,_,h,_,_=>by cases h
 | x :: R,h,r,i,hr,hi,hne=>by
  obtain ⟨h1,h2⟩:=Zbx (x:=f x) (l:=R.map f) h
  rcases List.mem_cons.1 hr with hr' | hr'
  ·rcases List.mem_cons.1 hi with hi' | hi'
   ·exact absurd (hr'.trans hi'.symm) hne
   ·exact fun e=>h1 (List.mem_map.2 ⟨i,hi',by rw [<- e,hr']⟩)
  ·rcases List.mem_cons.1 hi with hi' | hi'
   ·exact fun e=>h1 (List.mem_map.2 ⟨r,hr',by rw [e,hi']⟩)
   ·exact Zfh h2 hr' hi' hne
theorem Ztw {R:List Nat} {l:Array Bool} {i:Nat} (hi:i ∉ R):Zec R (l.setIfInBounds i true)=Zec R l:=by
 unfold Zec
 congr 1
 apply List.filter_congr
 intro r hr;rw [Go.getD_set_ne true (fun e:i=r=>hi (e ▸ hr))]
theorem Zk8 {R:List Nat} {l:Array Bool} {i:Nat} (hn:Zb1 R=true) (hi:i ∈ R) (h:l.getD i true=false):Zec R (l.setIfInBounds i true)+1=Zec R l:=by
 have hlt:i < l.size:=by
  rcases Nat.lt_or_ge i l.size with h' | h'
  ·exact h'
  ·rw [Array.getD_eq_getD_getElem?,Array.getElem?_eq_none h'] at h;cases h
 have hset:(l.setIfInBounds i true).getD i true=true:=by
  rw [Array.getD_eq_getD_getElem?,Array.getElem?_setIfInBounds_self,if_pos hlt];rfl
 induction R with
 | nil=>cases hi
 | cons r R ih =>
  obtain ⟨n1,n2⟩:=Zbx hn
  by_cases hr:i=r
  ·subst hr
   have:=Ztw (l:=l) n1;unfold Zec at this ⊢;rw [List.filter_cons_of_neg (by simp [hset]),List.filter_cons_of_pos (by simp [h]),this]
   rfl
  ·have hi2:i ∈ R:=by
     rcases List.mem_cons.1 hi with h' | h'
     ·exact absurd h' hr
     ·exact h'
   have:=ih n2 hi2;unfold Zec at this ⊢
   by_cases hb:l.getD r true=true
   ·rw [List.filter_cons_of_neg (by rw [Go.getD_set_ne true hr];simp [hb]),List.filter_cons_of_neg (by simp [hb])];exact this
   ·rw [List.filter_cons_of_pos (by rw [Go.getD_set_ne true hr];simpa using hb),List.filter_cons_of_pos (by simpa using hb),List.length_cons,List.length_cons,this]
theorem Zqr (R:List (Nat × Nat)) (h:R.all (fun p=>Zbc ops p.1 == p.2)=true):(R.map (·.1)).map (Zbc ops)=R.map (·.2):=by
 rw [List.map_map]
 apply List.map_congr_left
 intro p hp;rw [List.all_eq_true] at h
 simpa using h p hp
end
section
variable {P:Program} {ops:Array Oper} {Q:Exit->Act->World->Prop} {md:Region.Mode} {L:List Nat} {S:World->Prop}
theorem Zjp {i:Nat} {oi:Oper} {v:Value} (hi:ops[i]?=some oi) (hsel:∀ (j:Nat) (o:Oper) cs b,ops[j]?=some o->o.op ≠ .select cs b)
    (hQ:∀ c a w,Q (.panic c) (a.put oi.dst v) w->Q (.panic c) a w) (hiL:L.contains i=false) :
    ∀ (fuel:Nat) (listed:Array Bool) (a:Act) (w:World),
     (∀ j oj,ops[j]?=some oj->j ≠ i->listed.getD j true=false->(∀ e ∈ oj.after,Region.binds md e=true->e.on ≠ i)->oi.apart ops oj=true) ->
     i ∈ Region.ready md ops listed->YieldsIf P ops (fun _=>True) oi v a->(Zc0 L listed=true->S w) ->
     Zal P md ops Q L S fuel (listed.setIfInBounds i true) (a.put oi.dst v) w->Zal P md ops Q L S (fuel+1) listed a w:=by
 have hiL':i ∉ L:=fun h=>by
  rw [List.contains_iff_mem.2 h] at hiL
  cases hiL
 intro fuel
 induction fuel with
 | zero =>
  intro listed a w _ hr hy hS H;refine ⟨fun h=>(by rw [h] at hr;cases hr),fun j hj=>?_⟩
  by_cases hji:j=i
  ·subst hji;exact hy.wpOp hi trivial ⟨fun h=>hS (by rwa [Zct hiL'] at h),H⟩
  ·have:=ready_mono hj hji
   rw [H.1] at this
   cases this
 | succ fuel ih =>
  intro listed a w hfree hr hy hS H;refine ⟨fun h=>(by rw [h] at hr;cases hr),fun j hj=>?_⟩
  by_cases hji:j=i
  ·subst hji;exact hy.wpOp hi trivial ⟨fun h=>hS (by rwa [Zct hiL'] at h),H⟩
  ·have h1:=H.2 j (ready_mono hj hji)
   obtain ⟨hjun,oj,hoj,hall⟩:=mem_ready.1 hj
   have hnot:∀ e ∈ oj.after,Region.binds md e=true->e.on ≠ i:=fun e he hb heq=>by
    have h1:=hall e he hb;have h0:=(mem_ready.1 hr).1;rw [heq] at h1
    rcases Nat.lt_or_ge i listed.size with h' | h'
    ·simp [h'] at h0 h1;rw [h0] at h1;cases h1
    ·simp [Array.getElem?_eq_none h'] at h1
   have h2:=wpOp_putIf hoj (hfree j oj hoj hji hjun hnot) (fun cs b=>hsel i oi cs b hi) (fun cs b=>hsel j oj cs b hoj) hQ hy h1
   have hfree':∀ k ok,ops[k]?=some ok->k ≠ i->(listed.setIfInBounds j true).getD k true=false ->
       (∀ e ∈ ok.after,Region.binds md e=true->e.on ≠ i)->oi.apart ops ok=true:=fun k ok hk hki hun hno=>by
    refine hfree k ok hk hki ?_ hno
    by_cases hjk:j=k
    ·subst hjk;exact hjun
    ·rw [Go.getD_set_ne true hjk] at hun;exact hun
   refine wpOp_mono (fun a' w' h3=>?_) h2
   have hSj:Zc0 L (listed.setIfInBounds j true)=true->S w':=fun h=>h3.2.1 (by
    rw [Array.setIfInBounds_comm _ _ (Ne.symm hji),Zct hiL'];exact h)
   refine ⟨hSj,ih (listed.setIfInBounds j true) a' w' hfree' (ready_mono hr (Ne.symm hji)) h3.1 hSj ?_⟩;rw [Array.setIfInBounds_comm _ _ hji];exact h3.2.2
theorem Zg {i:Nat} {oi:Oper} {v:Value} {fuel:Nat} {listed:Array Bool} {a:Act} {w:World} (hi:ops[i]?=some oi)
    (hs:Region.noSelect ops=true) (hf:Region.free md ops listed i=true) (hr:(Region.ready md ops listed).contains i=true) (hL:L.contains i=false)
    (hy:YieldsIf P ops (fun _=>True) oi v a) (hS:Zc0 L listed=true->S w)
    (h:Zal P md ops (OnlyNormal Q) L S fuel (listed.setIfInBounds i true) (a.put oi.dst v) w):Zal P md ops (OnlyNormal Q) L S (fuel+1) listed a w:=
 Zjp hi (Region.noSelect_spec hs) (fun _ _ _ h=>(h:False).elim) hL fuel listed a w (Region.free_spec hi hf) (by simpa using hr) hy hS h
end
def Zgd (md:Region.Mode) (ops:Array Oper) (L:List Nat):List Nat->Array Bool->Bool
 | [],_=>true
 | i :: is,l=>Region.free md ops l i && (Region.ready md ops l).contains i && !L.contains i && Zgd md ops L is (l.setIfInBounds i true)
section
variable {P:Program} {ops:Array Oper} {Q:Exit->Act->World->Prop} {md:Region.Mode} {L:List Nat} {S:World->Prop}
theorem Zfl (hs:Region.noSelect ops=true) {w:World} (hS:S w):∀ (is:List Nat) (F:Nat) (listed:Array Bool) (a:Act),Zgd md ops L is listed=true->Zcq P ops (fun _=>True) is a (fun a'=>Zal P md ops (OnlyNormal Q) L S F (Zdq is listed) a' w)->Zal P md ops (OnlyNormal Q) L S (F+is.length) listed a w
 | [],F,l,a,_,h=>h
 | i :: is,F,l,a,hc,h=>by
  obtain ⟨oi,v,ho,hy,h2⟩:=h;simp only [Zgd,Bool.and_eq_true,Bool.not_eq_true'] at hc;exact Zg ho hs hc.1.1.1 hc.1.1.2 hc.1.2 hy (fun _=>hS) (Zfl hs hS is F _ _ hc.2 h2)
theorem Zfy {F:Nat} {listed:Array Bool} {a:Act} {w:World} (k:Nat) (is:List Nat) (hk:is.length=k) (hc:(Region.noSelect ops && Zgd md ops L is listed)=true) (hS:S w)
    (h:Zcq P ops (fun _=>True) is a (fun a'=>Zal P md ops (OnlyNormal Q) L S F (Zdq is listed) a' w)):Zal P md ops (OnlyNormal Q) L S (F+k) listed a w:=by
 rw [Bool.and_eq_true] at hc;subst hk;exact Zfl hc.1 hS is F listed a hc.2 h
end
def Za9 (R:List Nat) (att:Nat->List Nat):List Nat:=R.flatMap fun i=>i :: att i
def Zh3 (md:Region.Mode) (ops:Array Oper) (l:Array Bool) (i:Nat):List Nat->List Nat->Bool
 | [],_=>true
 | u :: us,done=>(match ops[u]? with | some o=>o.dst.isSome | none=>false) && (Za8 md ops u).contains i && !l.getD u true && (Za8 md ops u).all (fun p=>p == i || done.contains p || l.getD p false || (Za8 md ops i).contains p) &&
     ((List.range ops.size).all fun j=>j == u || (j == i || done.contains j || l.getD j false || (Za8 md ops i).contains j) || (Za8 md ops j).contains u || (match ops[u]?,ops[j]? with | some ou,some oj=>ou.apart ops oj | _,_=>true)) && Zh3 md ops l i us (u :: done)
def Zsw (md:Region.Mode) (ops:Array Oper) (att:Nat->List Nat):List Nat->Array Bool->Bool
 | [],_=>true
 | r :: rs,l=>!l.getD r true && (match ops[r]? with | some o=>o.dst.isSome | none=>false) && (Za8 md ops r).all (fun p=>l.getD p false) && Zsw md ops att rs (Zbj (r :: att r) l)
def Zwq (md:Region.Mode) (ops:Array Oper) (R F:List Nat) (l:Array Bool):Bool:=
 (List.range ops.size).all fun k=>F.contains k || l.getD k true || (Za8 md ops k).any (fun p=>!F.contains p && !l.getD p false) || (R.all fun r=>(clo md ops F.reverse (Za8 md ops k)).contains r)
def Zk4 (md:Region.Mode) (ops:Array Oper) (R:List Nat) (att:Nat->List Nat) (l:Array Bool):Bool:=
 Zsw md ops att R l && Zwq md ops R (Za9 R att) l && Zb1 ((Za9 R att).map (Zbc ops)) && decide (l.size=ops.size) && R.all (fun i=>Zh3 md ops l i (att i) []) && Region.noSelect ops
section
variable {P:Program} {ops:Array Oper} {Q:Exit->Act->World->Prop} {md:Region.Mode} {L:List Nat} {S:World->Prop}
def Zp4 (P:Program) (ops:Array Oper) (Φ:Nat->Value->World->Prop) (w:World):List Nat->Act->Prop
 | [],_=>True
 | u :: us,a=>∃ o v,ops[u]?=some o/\YieldsIf P ops (fun _=>True) o v a/\Φ u v w/\Zp4 P ops Φ w us (a.put o.dst v)
theorem Zgy {l:Array Bool} {i:Nat} (h:i < l.size):(l.setIfInBounds i true).getD i false=true:=by
 rw [Array.getD_eq_getD_getElem?,Array.getElem?_setIfInBounds_self,if_pos h];rfl
theorem Zb4 {us:List Nat} {l:Array Bool} {k:Nat} (h:l.getD k false=true):(Zbj us l).getD k false=true:=by
 induction us generalizing l with
 | nil=>exact h
 | cons u us ih=>exact ih (l:=l.setIfInBounds u true) (Zat h)
theorem Zlx {us:List Nat} {l:Array Bool} {k:Nat} (hk:k ∈ us) (h:k < l.size):(Zbj us l).getD k false=true:=by
 induction us generalizing l with
 | nil=>cases hk
 | cons u us ih =>
  rcases List.mem_cons.1 hk with rfl | hk
  ·exact Zb4 (us:=us) (Zgy h)
  ·exact ih (l:=l.setIfInBounds u true) hk (by simp;exact h)
theorem Zrx {Φ:Nat->Value->World->Prop} {l0:Array Bool} {i:Nat} {R:List Nat} {a0:Act} {w:World} {F:Nat} (hns:Region.noSelect ops=true) (hnd:Zb1 (R.map (Zbc ops))=true) (hiR:i ∈ R) :
    ∀ (us done:List Nat) (l:Array Bool) (ν:Nat->Value),Zh3 md ops l0 i us done=true->(∀ u ∈ us,u ∈ R)->(∀ u ∈ us,u ∉ L)->(∀ u ∈ us,l.getD u true=false)->l.size=ops.size->Zb1 us=true ->
     (∀ p,l0.getD p false=true->l.getD p false=true)->l.getD i false=true->(∀ p ∈ Za8 md ops i,l.getD p false=true)->(∀ u ∈ done,l.getD u false=true)->S w ->
     Zp4 P ops Φ w us (Zaw (R.map (Zbc ops)) a0 ν) ->
     (∀ ν',(∀ k,(∀ u ∈ us,Zbc ops u ≠ k)->ν' k=ν k)->(∀ u ∈ us,Φ u (ν' (Zbc ops u)) w)->Zal P md ops (OnlyNormal Q) L S F (Zbj us l) (Zaw (R.map (Zbc ops)) a0 ν') w) ->
     Zal P md ops (OnlyNormal Q) L S (us.length+F) l (Zaw (R.map (Zbc ops)) a0 ν) w:=by
 intro us
 induction us with
 | nil =>
  intro done l ν _ _ _ _ _ _ _ _ _ _ _ _ h;rw [show ([]:List Nat).length+F=F by simp];exact h ν (fun _ _=>rfl) (fun u hu=>by cases hu)
 | cons u us ih =>
  intro done l ν hat hR hL hun hsz hndu hl0 hi hp hdone hS htr h;simp only [Zh3,Bool.and_eq_true,List.all_eq_true] at hat;obtain ⟨⟨⟨⟨⟨h1,h2⟩,h3⟩,h4⟩,h5⟩,h6⟩:=hat;obtain ⟨o,v,ho,hy,hΦ,htr2⟩:=htr;obtain ⟨n1,n2⟩:=Zbx hndu;have husz:u < ops.size:=(Array.getElem?_eq_some_iff.1 ho).1;have hu0:=hun u (List.mem_cons_self ..)
  have hready:u ∈ Region.ready md ops l:=Zhd hu0 ho (fun p hp2=>by
   have h7:=h4 p hp2;simp only [Bool.or_eq_true,beq_iff_eq] at h7
   rcases h7 with ((h7 | h7) | h7) | h7
   ·rw [h7];exact hi
   ·exact hdone p (List.contains_iff_mem.1 h7)
   ·exact hl0 p h7
   ·exact hp p (List.contains_iff_mem.1 h7))
  have hdst:o.dst=some (Zbc ops u):=by
   rw [ho] at h1;obtain ⟨d,hd⟩:=Option.isSome_iff_exists.1 h1;unfold Zbc;rw [ho];simp only [hd,Option.getD_some]
  have hdn:Zbc ops u ∈ R.map (Zbc ops):=List.mem_map.2 ⟨u,hR u (List.mem_cons_self ..),rfl⟩;rw [List.length_cons,Nat.add_right_comm]
  refine Zjp ho (Region.noSelect_spec hns) (fun _ _ _ h=>(h:False).elim) (by
   cases hc:L.contains u with
   | false=>rfl
   | true=>exact absurd (List.contains_iff_mem.1 hc) (hL u (List.mem_cons_self ..))) _ l _ w (fun j oj hoj hju hjl hnw=>?_) hready hy (fun _=>hS) ?_
  ·have h7:=h5 j (List.mem_range.2 (Array.getElem?_eq_some_iff.1 hoj).1)
   simp only [Bool.or_eq_true,beq_iff_eq] at h7
   rcases h7 with ((h7 | h7) | h7) | h7
   ·exact absurd h7 hju
   ·exfalso
    have h8:l.getD j false=true:=by
     rcases h7 with ((h7 | h7) | h7) | h7
     ·rw [h7];exact hi
     ·exact hdone j (List.contains_iff_mem.1 h7)
     ·exact hl0 j h7
     ·exact hp j (List.contains_iff_mem.1 h7)
    rw [Zeg h8] at hjl
    cases hjl
   ·exfalso
    have h8:=List.contains_iff_mem.1 h7;unfold Za8 at h8;rw [hoj] at h8;obtain ⟨e,he,he2⟩:=List.mem_map.1 h8;rw [List.mem_filter] at he;exact hnw e (by simpa using he.1) he.2 he2
   ·rw [ho,hoj] at h7;exact h7
  ·rw [hdst,Zkc hdn hnd]
   refine ih (u :: done) (l.setIfInBounds u true) (upd ν (Zbc ops u) v) h6 (fun x hx=>hR x (List.mem_cons_of_mem _ hx)) (fun x hx=>hL x (List.mem_cons_of_mem _ hx)) (fun x hx=>?_) (by simp;exact hsz) n2 (fun p hp2=>Zat (hl0 p hp2)) (Zat hi) (fun p hp2=>Zat (hp p hp2)) (fun x hx=>?_) hS ?_ (fun ν' k1 k2=>?_)
   ·rw [Go.getD_set_ne true (fun e:u=x=>n1 (e ▸ hx))]
    exact hun x (List.mem_cons_of_mem _ hx)
   ·rcases List.mem_cons.1 hx with rfl | hx
    ·exact Zgy (by omega)
    ·exact Zat (hdone x hx)
   ·rw [hdst,Zkc hdn hnd] at htr2
    exact htr2
   ·refine h ν' (fun k hk=>?_) (fun x hx=>?_)
    ·rw [k1 k (fun x hx=>hk x (List.mem_cons_of_mem _ hx))]
     simp only [upd,if_neg (Ne.symm (hk u (List.mem_cons_self ..)))]
    ·rcases List.mem_cons.1 hx with rfl | hx
     ·have h9:∀ y ∈ us,Zbc ops y ≠ Zbc ops x:=fun y hy=>Zfh hnd (hR y (List.mem_cons_of_mem _ hy)) (hR x (List.mem_cons_self ..)) (fun e=>n1 (e ▸ hy))
      rw [k1 _ h9];simp only [upd,if_true];exact hΦ
     ·exact k2 x hx
theorem Zl4 {us:List Nat} {l:Array Bool} {k:Nat} (h:(Zbj us l).getD k false=true):k ∈ us \/ l.getD k false=true:=by
 induction us generalizing l with
 | nil=>exact .inr h
 | cons u us ih =>
  rcases ih (l:=l.setIfInBounds u true) h with h1 | h1
  ·exact .inl (List.mem_cons_of_mem _ h1)
  ·by_cases hk:u=k
   ·exact .inl (hk ▸ List.mem_cons_self ..)
   ·rw [Go.getD_set_ne false hk] at h1;exact .inr h1
theorem Zgx {us:List Nat} {l:Array Bool} {k:Nat} (h:(Zbj us l).getD k true=false):l.getD k true=false:=by
 rw [Zb9] at h
 split at h
 ·cases h
 ·exact h
theorem Zit {att:Nat->List Nat}:∀ (R:List Nat) (l0:Array Bool),Zsw md ops att R l0=true->(∀ r ∈ R,l0.getD r true=false/\∃ o d,ops[r]?=some o/\o.dst=some d) /\
      ∀ l:Array Bool,l.size=l0.size->(∀ k,l0.getD k false=true->l.getD k false=true)->(∀ r ∈ R,l.getD r true=true->∀ u ∈ att r,l.getD u false=true)->(∃ r ∈ R,l.getD r true=false)->∃ r ∈ R,l.getD r true=false/\∀ p ∈ Za8 md ops r,l.getD p false=true
 | [],_,_=>⟨fun r hr=>(by cases hr),fun l _ _ _ ⟨r,hr,_⟩=>(by cases hr)⟩
 | r :: R,l0,h=>by
  simp only [Zsw,Bool.and_eq_true,Bool.not_eq_true',List.all_eq_true] at h;obtain ⟨⟨⟨h1,h2⟩,h3⟩,h4⟩:=h;obtain ⟨k1,k2⟩:=Zit R _ h4;refine ⟨fun x hx=>?_,fun l hsz hl hat hu=>?_⟩
  ·rcases List.mem_cons.1 hx with rfl | hx
   ·refine ⟨h1,?_⟩
    cases ho:ops[x]? with
    | none=>rw [ho] at h2;cases h2
    | some o =>
     rw [ho] at h2;obtain ⟨d,hd⟩:=Option.isSome_iff_exists.1 h2;exact ⟨o,d,rfl,hd⟩
   ·obtain ⟨m1,m2⟩:=k1 x hx
    exact ⟨Zgx m1,m2⟩
  ·by_cases hr:l.getD r true=false
   ·exact ⟨r,List.mem_cons_self ..,hr,fun p hp=>hl p (h3 p hp)⟩
   ·have hr2:l.getD r true=true:=by simpa using hr
    have hrs:r < l0.size:=by
     rcases Nat.lt_or_ge r l0.size with h' | h'
     ·exact h'
     ·rw [Array.getD_eq_getD_getElem?,Array.getElem?_eq_none h'] at h1;cases h1
    have hrl:r < l.size:=by omega
    have hrf:l.getD r false=true:=by
     rw [Array.getD_eq_getD_getElem?,Array.getElem?_eq_getElem hrl] at hr2 ⊢;exact hr2
    obtain ⟨x,hx,hx2⟩:=k2 l (by rw [Zga];exact hsz) (fun k hk=>by
     rcases Zl4 hk with h5 | h5
     ·rcases List.mem_cons.1 h5 with rfl | h5
      ·exact hrf
      ·exact hat r (List.mem_cons_self ..) hr2 k h5
     ·exact hl k h5) (fun y hy=>hat y (List.mem_cons_of_mem _ hy)) (by
     obtain ⟨y,hy,hy2⟩:=hu
     rcases List.mem_cons.1 hy with rfl | hy
     ·exact absurd hy2 hr
     ·exact ⟨y,hy,hy2⟩)
    exact ⟨x,List.mem_cons_of_mem _ hx,hx2⟩
theorem Zoa {R:List Nat} (hn:Zb1 R=true):∀ (us:List Nat) (l:Array Bool),Zb1 us=true->(∀ u ∈ us,u ∈ R)->(∀ u ∈ us,l.getD u true=false)->Zec R (Zbj us l)+us.length=Zec R l:=by
 intro us
 induction us with
 | nil=>intro l _ _ _;rfl
 | cons u us ih =>
  intro l h1 h2 h3;obtain ⟨n1,n2⟩:=Zbx h1;have h4:=Zk8 hn (h2 u (List.mem_cons_self ..)) (h3 u (List.mem_cons_self ..))
  have h5:=ih (l.setIfInBounds u true) n2 (fun x hx=>h2 x (List.mem_cons_of_mem _ hx)) (fun x hx=>by
   rw [Go.getD_set_ne true (fun e:u=x=>n1 (e ▸ hx))]
   exact h3 x (List.mem_cons_of_mem _ hx))
  show Zec R (Zbj us (l.setIfInBounds u true))+(us.length+1)=_;omega
theorem Zee:∀ {a b:List Nat},Zb1 (a ++ b)=true->Zb1 b=true
 | [],_,h=>h
 | _ :: a,_,h=>Zee (a:=a) (Zbx h).2
theorem Zev:∀ {a b:List Nat},Zb1 (a ++ b)=true->Zb1 a=true
 | [],_,_=>rfl
 | x :: a,b,h=>by
  obtain ⟨h1,h2⟩:=Zbx (x:=x) (l:=a ++ b) h;simp only [Zb1,Bool.and_eq_true,Bool.not_eq_true'];refine ⟨?_,Zev h2⟩
  cases hc:a.contains x with
  | false=>rfl
  | true=>exact absurd (List.mem_append_left _ (List.contains_iff_mem.1 hc)) h1
theorem Zkk:∀ {a b:List Nat},Zb1 (a ++ b)=true->∀ x,x ∈ a->x ∉ b
 | [],_,_,x,hx=>by cases hx
 | y :: a,b,h,x,hx=>by
  obtain ⟨h1,h2⟩:=Zbx (x:=y) (l:=a ++ b) h
  rcases List.mem_cons.1 hx with hx' | hx'
  ·intro hb;exact h1 (List.mem_append_right _ (hx' ▸ hb))
  ·exact Zkk h2 x hx'
theorem Zqq {att:Nat->List Nat}:∀ {R:List Nat},Zb1 (Za9 R att)=true->∀ r ∈ R,Zb1 (r :: att r)=true/\∀ r' ∈ R,r' ≠ r->∀ x ∈ r :: att r,x ∉ r' :: att r'
 | [],_,r,hr=>by cases hr
 | y :: R,h,r,hr=>by
  have e:Za9 (y :: R) att=(y :: att y) ++ Za9 R att:=rfl;rw [e] at h;have h1:=Zev h;have h2:=Zee h;have h3:=Zkk h
  have hmem:∀ z ∈ R,∀ x ∈ z :: att z,x ∈ Za9 R att:=fun z hz x hx=>List.mem_flatMap.2 ⟨z,hz,hx⟩
  by_cases hry:r=y
  ·subst hry
   refine ⟨h1,fun r' hr' hne x hx hx2=>?_⟩
   rcases List.mem_cons.1 hr' with h4 | h4
   ·exact hne h4
   ·exact h3 x hx (hmem r' h4 x hx2)
  ·have hrR:r ∈ R:=by
     rcases List.mem_cons.1 hr with h4 | h4
     ·exact absurd h4 hry
     ·exact h4
   obtain ⟨k1,k2⟩:=Zqq h2 r hrR;refine ⟨k1,fun r' hr' hne x hx hx2=>?_⟩
   by_cases hr'y:r'=y
   ·subst hr'y
    exact h3 x hx2 (hmem r hrR x hx)
   ·rcases List.mem_cons.1 hr' with h4 | h4
    ·exact hr'y h4
    ·exact k2 r' h4 hne x hx hx2
theorem Zwu (R:List Nat) (att:Nat->List Nat) (D:List Nat) (hDR:∀ i ∈ D,i ∈ R) (Φ:Nat->Value->World->Prop) {l0:Array Bool} {a0:Act} {w0:World} (hok:Zk4 md ops R att l0=true) (hL:∀ u ∈ Za9 R att,u ∉ L)
    (hst:∀ i ∈ Za9 R att,∀ v w w',Below w.heap.size w w'->Φ i v w->Φ i v w') (hS:∀ w',Below w0.heap.size w0 w'->S w') {F:Nat}
    (hop:∀ i ∈ R,∀ (ν:Nat->Value) (w:World),Below w0.heap.size w0 w->(∀ j ∈ Za9 R att,j ∈ Za8 md ops i->Φ j (ν (Zbc ops j)) w) ->
     wpOp P ops (OnlyNormal Q) i (fun a' w'=>∃ v,a'=(Zaw ((Za9 R att).map (Zbc ops)) a0 ν).put (some (Zbc ops i)) v/\Φ i v w'/\Below w.heap.size w w'/\Zp4 P ops Φ w' (att i) a'/\(i ∈ D->∀ j ∈ D,∀ u,Φ j u w->v ≠ u)) (Zaw ((Za9 R att).map (Zbc ops)) a0 ν) w)
    (hfin:∀ (ν:Nat->Value) (w:World),Below w0.heap.size w0 w->(∀ i ∈ Za9 R att,Φ i (ν (Zbc ops i)) w)->(∀ i ∈ D,∀ j ∈ D,i ≠ j->ν (Zbc ops i) ≠ ν (Zbc ops j))->Zal P md ops (OnlyNormal Q) L S F (Zbj (Za9 R att) l0) (Zaw ((Za9 R att).map (Zbc ops)) a0 ν) w) :
    ∀ (n:Nat) (l:Array Bool) (ν:Nat->Value) (w:World),n=Zec (Za9 R att) l->l.size=l0.size->(∀ k,k ∉ Za9 R att->l.getD k true=l0.getD k true)->(∀ k,l0.getD k false=true->l.getD k false=true) ->
     (∀ r ∈ Za9 R att,l.getD r false=true->∀ p ∈ Za8 md ops r,l.getD p false=true) ->
     (∀ r ∈ R,∀ u ∈ att r,(l.getD r true=true->l.getD u false=true)/\(l.getD r true=false->l.getD u true=false))->Below w0.heap.size w0 w->(∀ r ∈ Za9 R att,l.getD r true=true->Φ r (ν (Zbc ops r)) w)->(∀ i ∈ D,∀ j ∈ D,i ≠ j->l.getD i true=true->l.getD j true=true->ν (Zbc ops i) ≠ ν (Zbc ops j)) ->
     Zal P md ops (OnlyNormal Q) L S (n+F) l (Zaw ((Za9 R att).map (Zbc ops)) a0 ν) w:=by
 simp only [Zk4,Bool.and_eq_true,decide_eq_true_eq] at hok;obtain ⟨⟨⟨⟨⟨hto,hou⟩,hnd⟩,hsz0⟩,hato⟩,hns⟩:=hok;rw [List.all_eq_true] at hato;obtain ⟨t1,t2⟩:=Zit R l0 hto;have hndf:=Zlf hnd
 have hmemR:∀ r ∈ R,r ∈ Za9 R att:=fun r hr=>List.mem_flatMap.2 ⟨r,hr,List.mem_cons_self ..⟩
 have hmemU:∀ r ∈ R,∀ u ∈ att r,u ∈ Za9 R att:=fun r hr u hu=>List.mem_flatMap.2 ⟨r,hr,List.mem_cons_of_mem _ hu⟩
 have hattp:∀ r ∈ R,∀ u ∈ att r,r ∈ Za8 md ops u/\(∃ o,ops[u]?=some o):=fun r hr=>by
  have:∀ (us done:List Nat),Zh3 md ops l0 r us done=true->∀ u ∈ us,r ∈ Za8 md ops u/\(∃ o,ops[u]?=some o):=by
   intro us
   induction us with
   | nil=>intro _ _ u hu;cases hu
   | cons x us ih =>
    intro done h u hu;simp only [Zh3,Bool.and_eq_true] at h
    rcases List.mem_cons.1 hu with rfl | hu
    ·refine ⟨List.contains_iff_mem.1 h.1.1.1.1.2,?_⟩
     cases ho:ops[u]? with
     | none=>have:=h.1.1.1.1.1;rw [ho] at this;cases this
     | some o=>exact ⟨o,rfl⟩
    ·exact ih _ h.2 u hu
  exact this (att r) [] (hato r hr)
 intro n
 induction n using Nat.strongRecOn with
 | _ n ih =>
  intro l ν w hn hsz hK hM hD hA hb hΦ hNE
  have hsize:∀ r ∈ Za9 R att,r < l.size:=fun x hx=>by
   obtain ⟨r,hr,hx2⟩:=List.mem_flatMap.1 hx
   rcases List.mem_cons.1 hx2 with rfl | hx2
   ·obtain ⟨-,o,d,ho,-⟩:=t1 x hr
    have:=(Array.getElem?_eq_some_iff.1 ho).1;omega
   ·obtain ⟨-,o,ho⟩:=hattp r hr x hx2
    have:=(Array.getElem?_eq_some_iff.1 ho).1;omega
  have htf:∀ k,k < l.size->l.getD k true=true->l.getD k false=true:=fun k hk h=>by
   rw [Array.getD_eq_getD_getElem?,Array.getElem?_eq_getElem hk] at h ⊢;exact h
  by_cases hex:∃ r ∈ R,l.getD r true=false
  ·obtain ⟨r,hr,hr1,hr2⟩:=t2 l hsz hM (fun r hr h u hu=>(hA r hr u hu).1 h) hex
   obtain ⟨-,o,d,ho,-⟩:=t1 r hr;have hready:=Zhd (md:=md) hr1 ho hr2
   obtain ⟨m,rfl⟩:∃ m,n=m+1:=by
    have:=Zk8 hndf (hmemR r hr) hr1;exact ⟨Zec (Za9 R att) (l.setIfInBounds r true),by omega⟩
   rw [Nat.add_right_comm];refine ⟨fun h0=>(by rw [h0] at hready;cases hready),fun i hi=>?_⟩;obtain ⟨hi1,hi2,hi3⟩:=Zle hi
   have hiF:i ∈ Za9 R att:=by
    apply Classical.byContradiction
    intro hni;unfold Zwq at hou;rw [List.all_eq_true] at hou;have h1:=hou i (List.mem_range.2 hi2);simp only [Bool.or_eq_true,List.any_eq_true,List.all_eq_true,Bool.and_eq_true,Bool.not_eq_true'] at h1
    rcases h1 with ((h1 | h1) | ⟨p,hp,h2,h3⟩) | h1
    ·exact hni (List.contains_iff_mem.1 h1)
    ·rw [hK i hni,h1] at hi1;cases hi1
    ·have hpR:p ∉ Za9 R att:=fun h=>by rw [List.contains_iff_mem.2 h] at h2;cases h2
     have h4:=hi3 p hp;have h5:=Zeg h4;rw [hK p hpR] at h5
     have hps:p < l.size:=by
      rcases Nat.lt_or_ge p l.size with h' | h'
      ·exact h'
      ·rw [Array.getD_eq_getD_getElem?,Array.getElem?_eq_none h'] at h4;cases h4
     rw [Array.getD_eq_getD_getElem?,Array.getElem?_eq_getElem (by omega)] at h5 h3;simp only [Option.getD_some] at h5 h3;rw [h5] at h3;cases h3
    ·have h2:=Zq3 (md:=md) (ops:=ops) (l:=l) (R:=Za9 R att) hD (Za9 R att).reverse (Za8 md ops i) (fun r hr=>List.mem_reverse.1 hr) hi3
     have h3:=Zeg (h2 r (List.contains_iff_mem.1 (h1 r hr)));rw [hr1] at h3;cases h3
   have hiR:i ∈ R:=by
    obtain ⟨r',hr',hx⟩:=List.mem_flatMap.1 hiF
    rcases List.mem_cons.1 hx with rfl | hx
    ·exact hr'
    ·exfalso
     have h1:=Zeg (hi3 r' (hattp r' hr' i hx).1);have h2:=Zeg ((hA r' hr' i hx).1 h1);rw [hi1] at h2;cases h2
   have hdn:Zbc ops i ∈ (Za9 R att).map (Zbc ops):=List.mem_map.2 ⟨i,hiF,rfl⟩;obtain ⟨own1,own2⟩:=Zqq hndf i hiR;obtain ⟨ni,nus⟩:=Zbx own1;refine wpOp_mono (fun a' w' h=>?_) (hop i hiR ν w hb fun j hj hp=>hΦ j hj (Zeg (hi3 j hp)));obtain ⟨v,rfl,hv,hb2,htr,hne⟩:=h;have hb3:=hb.trans (hb2.mono hb.size);refine ⟨fun _=>hS _ hb3,?_⟩;rw [Zkc hdn hnd] at htr ⊢;have hset:(l.setIfInBounds i true).getD i false=true:=Zgy (hsize i hiF)
   have hund:∀ u ∈ att i,(l.setIfInBounds i true).getD u true=false:=fun u hu=>by
    rw [Go.getD_set_ne true (fun e:i=u=>ni (e ▸ hu))];exact (hA i hiR u hu).2 hi1
   have hlt:=Zk8 hndf hiF hi1;have hlm:=Zoa hndf (att i) (l.setIfInBounds i true) nus (hmemU i hiR) hund
   have hm:m=(att i).length+Zec (Za9 R att) (Zbj (att i) (l.setIfInBounds i true)):=by omega
   rw [hm,Nat.add_assoc];refine Zrx (R:=Za9 R att) hns hnd hiF (att i) [] (l.setIfInBounds i true) _ (hato i hiR) (hmemU i hiR) (fun u hu=>hL u (hmemU i hiR u hu)) hund (by simp;omega) nus (fun p hp=>Zat (hM p hp)) hset (fun p hp=>Zat (hi3 p hp)) (fun u hu=>by cases hu) (hS _ hb3) htr (fun ν' k1 k2=>?_)
   have hνi:ν' (Zbc ops i)=v:=by
    rw [k1 _ (fun u hu=>Zfh hnd (hmemU i hiR u hu) hiF (fun e=>ni (e ▸ hu)))];simp only [upd,if_true]
   have hνo:∀ x ∈ Za9 R att,x ≠ i->x ∉ att i->ν' (Zbc ops x)=ν (Zbc ops x):=fun x hx h1 h2=>by
    rw [k1 _ (fun u hu=>Zfh hnd (hmemU i hiR u hu) hx (fun e=>h2 (e ▸ hu)))];simp only [upd,if_neg (Zfh hnd hx hiF h1)]
   refine ih _ (by omega) (Zbj (att i) (l.setIfInBounds i true)) ν' w' rfl (by rw [Zga];simp;exact hsz) (fun k hk=>?_) (fun k hk=>Zb4 (Zat (hM k hk))) (fun x hx hxt p hp=>?_) (fun r' hr' u hu=>?_) hb3 (fun x hx hxt=>?_) (fun a ha b hb' hab hat hbt=>?_)
   ·rw [Zb9,if_neg (fun h=>hk (hmemU i hiR k h)),Go.getD_set_ne true (fun e:i=k=>hk (e ▸ hiF))]
    exact hK k hk
   ·rcases Zl4 hxt with h1 | h1
    ·-- an operation of the train
     have h2:∀ (us done:List Nat),Zh3 md ops l0 i us done=true->(∀ u ∈ done,(Zbj (att i) (l.setIfInBounds i true)).getD u false=true)->(∀ u ∈ us,u ∈ att i)->∀ u ∈ us,∀ p ∈ Za8 md ops u,(Zbj (att i) (l.setIfInBounds i true)).getD p false=true:=by
      intro us
      induction us with
      | nil=>intro _ _ _ _ u hu;cases hu
      | cons y us ihu =>
       intro done h hd hall u hu p hp;simp only [Zh3,Bool.and_eq_true,List.all_eq_true] at h
       rcases List.mem_cons.1 hu with rfl | hu
       ·have h7:=h.1.1.2 p hp
        simp only [Bool.or_eq_true,beq_iff_eq] at h7
        rcases h7 with ((h7 | h7) | h7) | h7
        ·rw [h7];exact Zb4 hset
        ·exact hd p (List.contains_iff_mem.1 h7)
        ·exact Zb4 (Zat (hM p h7))
        ·exact Zb4 (Zat (hi3 p (List.contains_iff_mem.1 h7)))
       ·refine ihu (y :: done) h.2 (fun z hz=>?_) (fun z hz=>hall z (List.mem_cons_of_mem _ hz)) u hu p hp
        rcases List.mem_cons.1 hz with rfl | hz
        ·exact Zlx (hall z (List.mem_cons_self ..)) (by simp;exact hsize z (hmemU i hiR z (hall z (List.mem_cons_self ..))))
        ·exact hd z hz
     exact h2 (att i) [] (hato i hiR) (fun u hu=>by cases hu) (fun u hu=>hu) x h1 p hp
    ·by_cases hxi:i=x
     ·subst hxi;exact Zb4 (Zat (hi3 p hp))
     ·rw [Go.getD_set_ne false hxi] at h1
      exact Zb4 (Zat (hD x hx h1 p hp))
   ·by_cases hri:r'=i
    ·subst hri
     refine ⟨fun _=>Zlx hu (by simp;exact hsize u (hmemU r' hr' u hu)),fun h=>?_⟩;have h1:=Zgx h;rw [Zeg hset] at h1;cases h1
    ·have hd1:=own2 r' hr' hri
     have hu1:u ∉ att i:=fun h=>hd1 u (List.mem_cons_of_mem _ h) (List.mem_cons_of_mem _ hu)
     have hu2:i ≠ u:=fun h=>hd1 i (List.mem_cons_self ..) (h ▸ List.mem_cons_of_mem _ hu)
     have hr1':r' ∉ att i:=fun h=>hd1 r' (List.mem_cons_of_mem _ h) (List.mem_cons_self ..)
     refine ⟨fun h=>?_,fun h=>?_⟩
     ·rw [Zb9,if_neg hr1',Go.getD_set_ne true (Ne.symm hri)] at h
      exact Zb4 (Zat ((hA r' hr' u hu).1 h))
     ·rw [Zb9,if_neg hr1',Go.getD_set_ne true (Ne.symm hri)] at h
      rw [Zb9,if_neg hu1,Go.getD_set_ne true hu2];exact (hA r' hr' u hu).2 h
   ·by_cases hxi:x=i
    ·subst hxi;rw [hνi];exact hv
    ·by_cases hxa:x ∈ att i
     ·exact k2 x hxa
     ·rw [hνo x hx hxi hxa]
      rw [Zb9,if_neg hxa,Go.getD_set_ne true (Ne.symm hxi)] at hxt;exact hst x hx _ _ _ hb2 (hΦ x hx hxt)
   ·have hDa:∀ x ∈ D,x ∉ att i:=fun x hx h=>by
      by_cases hxi:x=i
      ·exact ni (hxi ▸ h)
      ·exact own2 x (hDR x hx) hxi x (List.mem_cons_of_mem _ h) (List.mem_cons_self ..)
    have hold:∀ x ∈ D,x ≠ i->(Zbj (att i) (l.setIfInBounds i true)).getD x true=true->ν' (Zbc ops x)=ν (Zbc ops x)/\l.getD x true=true:=fun x hx hxi h=>by
     rw [Zb9,if_neg (hDa x hx),Go.getD_set_ne true (Ne.symm hxi)] at h;exact ⟨hνo x (hmemR x (hDR x hx)) hxi (hDa x hx),h⟩
    by_cases hai:a=i
    ·have hbi:b ≠ i:=fun h=>hab (hai.trans h.symm)
     obtain ⟨e1,e2⟩:=hold b hb' hbi hbt;rw [hai,hνi,e1];exact hne (hai ▸ ha) b hb' _ (hΦ b (hmemR b (hDR b hb')) e2)
    ·obtain ⟨e1,e2⟩:=hold a ha hai hat
     by_cases hbi:b=i
     ·rw [hbi,hνi,e1]
      exact fun h=>hne (hbi ▸ hb') a ha _ (hΦ a (hmemR a (hDR a ha)) e2) h.symm
     ·obtain ⟨e3,e4⟩:=hold b hb' hbi hbt
      rw [e1,e3];exact hNE a ha b hb' hab e2 e4
  ·have hall:∀ x ∈ Za9 R att,l.getD x true=true:=fun x hx=>by
     obtain ⟨r,hr,hx2⟩:=List.mem_flatMap.1 hx
     have h1:l.getD r true=true:=by
      cases h:l.getD r true with
      | true=>rfl
      | false=>exact absurd ⟨r,hr,h⟩ hex
     rcases List.mem_cons.1 hx2 with rfl | hx2
     ·exact h1
     ·exact Zeg ((hA r hr x hx2).1 h1)
   have h0:Zec (Za9 R att) l=0:=by
    unfold Zec;rw [List.length_eq_zero_iff,List.filter_eq_nil_iff];intro r hr;rw [hall r hr];simp
   have:l=Zbj (Za9 R att) l0:=by
    refine Zrj (by rw [Zga];exact hsz) fun k=>?_
    rw [Zb9]
    by_cases hk:k ∈ Za9 R att
    ·rw [if_pos hk];exact hall k hk
    ·rw [if_neg hk];exact hK k hk
   subst this;rw [hn,h0,Nat.zero_add];exact hfin ν w hb (fun i hi=>hΦ i hi (hall i hi)) (fun i hi j hj hij=>hNE i hi j hj hij (hall i (hmemR i (hDR i hi))) (hall j (hmemR j (hDR j hj))))
theorem Zqd (DP:List (Nat × Nat)) (RP:List (Nat × Nat)) (att:Nat->List Nat) (FP:List (Nat × Nat)) (Φ:Nat->Value->World->Prop) (F:Nat) {l0:Array Bool} {a0:Act} {w0:World}
    (hok:(Zk4 md ops (RP.map (·.1)) att l0 && (Za9 (RP.map (·.1)) att == FP.map (·.1)) && FP.all (fun p=>Zbc ops p.1 == p.2) && RP.all (fun p=>Zbc ops p.1 == p.2) && FP.all (fun p=>!L.contains p.1) && DP.all (fun p=>RP.contains p))=true)
    (hst:∀ p ∈ FP,∀ v w w',Below w.heap.size w w'->Φ p.1 v w->Φ p.1 v w') (hS:∀ w',Below w0.heap.size w0 w'->S w')
    (hop:∀ p ∈ RP,∀ (ν:Nat->Value) (w:World),Below w0.heap.size w0 w->(∀ q ∈ FP,(Za8 md ops p.1).contains q.1=true->Φ q.1 (ν q.2) w) ->
     wpOp P ops (OnlyNormal Q) p.1 (fun a' w'=>∃ v,a'=(Zaw (FP.map (·.2)) a0 ν).put (some p.2) v/\Φ p.1 v w'/\Below w.heap.size w w'/\Zp4 P ops Φ w' (att p.1) a'/\(p ∈ DP->∀ q ∈ DP,∀ u,Φ q.1 u w->v ≠ u)) (Zaw (FP.map (·.2)) a0 ν) w)
    (hfin:∀ (ν:Nat->Value) (w:World),Below w0.heap.size w0 w->(∀ p ∈ FP,Φ p.1 (ν p.2) w)->(∀ p ∈ DP,∀ q ∈ DP,p ≠ q->ν p.2 ≠ ν q.2)->Zal P md ops (OnlyNormal Q) L S F (Zbj (FP.map (·.1)) l0) (Zaw (FP.map (·.2)) a0 ν) w) :
    Zal P md ops (OnlyNormal Q) L S (FP.length+F) l0 a0 w0:=by
 simp only [Bool.and_eq_true,beq_iff_eq] at hok;obtain ⟨⟨⟨⟨⟨h1,h2⟩,h3⟩,h4⟩,h5⟩,h6⟩:=hok;rw [List.all_eq_true] at h6;have hD:=Zqr (ops:=ops) FP h3;rw [<- h2] at hD;rw [List.all_eq_true] at h3 h4 h5
 have hmem:∀ i,i ∈ Za9 (RP.map (·.1)) att->∃ p ∈ FP,p.1=i:=fun i hi=>by
  rw [h2] at hi;exact List.mem_map.1 hi
 have hall:=h1;simp only [Zk4,Bool.and_eq_true,decide_eq_true_eq] at h1;obtain ⟨⟨⟨⟨⟨hto,-⟩,hnd⟩,hsz0⟩,hato⟩,-⟩:=h1;obtain ⟨t1,-⟩:=Zit _ l0 hto
 have hund:∀ i ∈ Za9 (RP.map (·.1)) att,l0.getD i true=false:=fun x hx=>by
  obtain ⟨r,hr,hx2⟩:=List.mem_flatMap.1 hx
  rcases List.mem_cons.1 hx2 with rfl | hx2
  ·exact (t1 x hr).1
  ·rw [List.all_eq_true] at hato
   have:∀ (us done:List Nat),Zh3 md ops l0 r us done=true->∀ u ∈ us,l0.getD u true=false:=by
    intro us
    induction us with
    | nil=>intro _ _ u hu;cases hu
    | cons y us ih =>
     intro done h u hu;simp only [Zh3,Bool.and_eq_true,Bool.not_eq_true'] at h
     rcases List.mem_cons.1 hu with rfl | hu
     ·exact h.1.1.1.2
     ·exact ih _ h.2 u hu
   exact this _ _ (hato r hr) x hx2
 have hlen:Zec (Za9 (RP.map (·.1)) att) l0=FP.length:=by
  unfold Zec;rw [List.filter_eq_self.2 (fun r hr=>by rw [hund r hr];rfl),h2,List.length_map]
 have h:=Zwu (P:=P) (ops:=ops) (Q:=Q) (md:=md) (L:=L) (S:=S) (RP.map (·.1)) att (DP.map (·.1)) (fun i hi=>by
  obtain ⟨p,hp,rfl⟩:=List.mem_map.1 hi
  exact List.mem_map.2 ⟨p,List.contains_iff_mem.1 (h6 p hp),rfl⟩) Φ (F:=F) (a0:=a0) (w0:=w0) hall (fun u hu=>by
  obtain ⟨p,hp,rfl⟩:=hmem u hu;have:=h5 p hp;intro hc;rw [List.contains_iff_mem.2 hc] at this
  cases this) (fun i hi=>by
  obtain ⟨p,hp,rfl⟩:=hmem i hi
  exact hst p hp) hS (fun i hi ν w hb hP=>by
  obtain ⟨p,hp,rfl⟩:=List.mem_map.1 hi
  have:=hop p hp ν w hb (fun q hq hc=>by
   have hq2:=hP q.1 (by rw [h2];exact List.mem_map.2 ⟨q,hq,rfl⟩) (List.contains_iff_mem.1 hc);have e:=h3 q hq;simp only [beq_iff_eq] at e;rw [e] at hq2
   exact hq2)
  have e:=h4 p hp;simp only [beq_iff_eq] at e;rw [hD,e];refine wpOp_mono (fun a' w' h=>?_) this;obtain ⟨v,k1,k2,k3,k4,k5⟩:=h;refine ⟨v,k1,k2,k3,k4,fun hi j hj u hu=>?_⟩;obtain ⟨p',hp',hpe⟩:=List.mem_map.1 hi;obtain ⟨q',hq',rfl⟩:=List.mem_map.1 hj;have e1:=h4 p' (List.contains_iff_mem.1 (h6 p' hp'));simp only [beq_iff_eq] at e1;have:p'=p:=Prod.ext hpe (by rw [<- e1,<- e,hpe])
  exact k5 (this ▸ hp') q' hq' u hu) (fun ν w hb hf hne=>by
  rw [hD,h2]
  exact hfin ν w hb (fun p hp=>by
   have hq2:=hf p.1 (by rw [h2];exact List.mem_map.2 ⟨p,hp,rfl⟩);have e:=h3 p hp;simp only [beq_iff_eq] at e;rw [e] at hq2
   exact hq2) (fun p hp q hq hpq=>by
   have e1:=h4 p (List.contains_iff_mem.1 (h6 p hp));have e2:=h4 q (List.contains_iff_mem.1 (h6 q hq));simp only [beq_iff_eq] at e1 e2;have:=hne p.1 (List.mem_map.2 ⟨p,hp,rfl⟩) q.1 (List.mem_map.2 ⟨q,hq,rfl⟩) (fun h=>hpq (Prod.ext h (by rw [<- e1,<- e2,h])));rw [e1,e2] at this
   exact this)) FP.length l0 (fun d=>a0.tmps.getD d undef) w0 hlen.symm rfl (fun _ _=>rfl) (fun _ h=>h)
  (fun r hr h=>by have h1:=Zeg h;rw [hund r hr] at h1;cases h1)
  (fun r hr u hu=>⟨fun h=>(by rw [hund r (List.mem_flatMap.2 ⟨r,hr,List.mem_cons_self ..⟩)] at h;cases h),fun _=>hund u (List.mem_flatMap.2 ⟨r,hr,List.mem_cons_of_mem _ hu⟩)⟩)
  (Below.refl _ _) (fun r hr h=>by rw [hund r hr] at h;cases h)
  (fun i hi j hj _ h _=>by
   obtain ⟨p,hp,rfl⟩:=List.mem_map.1 hi;rw [hund p.1 (List.mem_flatMap.2 ⟨p.1,List.mem_map.2 ⟨p,List.contains_iff_mem.1 (h6 p hp),rfl⟩,List.mem_cons_self ..⟩)] at h
   cases h)
 rw [Zq8] at h;exact h
theorem Zbm (RP:List (Nat × Nat)) (att:Nat->List Nat) (FP:List (Nat × Nat)) (Φ:Nat->Value->World->Prop) (F:Nat) {l0:Array Bool} {a0:Act} {w0:World}
    (hok:(Zk4 md ops (RP.map (·.1)) att l0 && (Za9 (RP.map (·.1)) att == FP.map (·.1)) && FP.all (fun p=>Zbc ops p.1 == p.2) && RP.all (fun p=>Zbc ops p.1 == p.2) && FP.all (fun p=>!L.contains p.1))=true)
    (hst:∀ p ∈ FP,∀ v w w',Below w.heap.size w w'->Φ p.1 v w->Φ p.1 v w') (hS:∀ w',Below w0.heap.size w0 w'->S w')
    (hop:∀ p ∈ RP,∀ (ν:Nat->Value) (w:World),Below w0.heap.size w0 w->(∀ q ∈ FP,(Za8 md ops p.1).contains q.1=true->Φ q.1 (ν q.2) w) ->
     wpOp P ops (OnlyNormal Q) p.1 (fun a' w'=>∃ v,a'=(Zaw (FP.map (·.2)) a0 ν).put (some p.2) v/\Φ p.1 v w'/\Below w.heap.size w w'/\Zp4 P ops Φ w' (att p.1) a') (Zaw (FP.map (·.2)) a0 ν) w)
    (hfin:∀ (ν:Nat->Value) (w:World),Below w0.heap.size w0 w->(∀ p ∈ FP,Φ p.1 (ν p.2) w)->Zal P md ops (OnlyNormal Q) L S F (Zbj (FP.map (·.1)) l0) (Zaw (FP.map (·.2)) a0 ν) w) :
    Zal P md ops (OnlyNormal Q) L S (FP.length+F) l0 a0 w0:=
 Zqd [] RP att FP Φ F (by rw [hok];rfl) hst hS (fun p hp ν w hb hP=>wpOp_mono (fun a' w' h=>by
  obtain ⟨v,k1,k2,k3,k4⟩:=h
  exact ⟨v,k1,k2,k3,k4,fun h=>by cases h⟩) (hop p hp ν w hb hP)) (fun ν w hb hf _=>hfin ν w hb hf)
end
def Zaa (B0:Nat) (q:Rat) (ca mv x0 x1 al as_:Nat) (i:Nat) (v:Value) (w:World):Prop:=
 if i=ca \/ i=mv then ∃ na A n c nb B m d,v=.tuple #[.agg #[.bool na,.slice A n c,.bool nb,.slice B m d],.int .i64 0]/\Fr w na A n c nb B m d q
 else if i=x0 then ∃ na A n c nb B m d,v=.agg #[.bool na,.slice A n c,.bool nb,.slice B m d]/\Fr w na A n c nb B m d q
 else if i=x1 \/ i=as_ then v=.int .i64 0
 else if i=al then ∃ g,v=.pointer (some ⟨g,0,none⟩)/\B0 <= g/\Blk w g 45 #[.bool false,.slice none 0 0,.bool false,.slice none 0 0]
 else True
theorem Ze0 {B0:Nat} {q:Rat} {ca mv x0 x1 al as_ i:Nat} {v:Value} {w w':World} (hb:Below w.heap.size w w') (h:Zaa B0 q ca mv x0 x1 al as_ i v w):Zaa B0 q ca mv x0 x1 al as_ i v w':=by
 unfold Zaa at h ⊢
 split at h
 ·rename_i h1;rw [if_pos h1]
  obtain ⟨na,A,n,c,nb,B,m,d,e,hf⟩:=h;exact ⟨na,A,n,c,nb,B,m,d,e,hf.below hb⟩
 ·rename_i h1;rw [if_neg h1]
  split at h
  ·rename_i h2;rw [if_pos h2]
   obtain ⟨na,A,n,c,nb,B,m,d,e,hf⟩:=h;exact ⟨na,A,n,c,nb,B,m,d,e,hf.below hb⟩
  ·rename_i h2;rw [if_neg h2]
   split at h
   ·rename_i h3;rw [if_pos h3];exact h
   ·rename_i h3;rw [if_neg h3]
    split at h
    ·rename_i h4;rw [if_pos h4]
     obtain ⟨g,e,h5,h6⟩:=h;exact ⟨g,e,h5,Zc hb h6⟩
    ·rename_i h4;rw [if_neg h4];trivial
theorem FOwn.keptG {t:TypeId} {w w':World} {g:Nat} {qs:List Rat} {G:Nat->Prop} (h:FOwn t w g qs) (hk:Kept G w w') (hg:¬ G g) (hG:∀ k,G k->∃ t cs,Blk w k t cs/\NoLimb cs):FOwn t w' g qs:=by
 obtain ⟨es,zs,h1,h2,h3⟩:=h;exact ⟨es,zs,hk.blk h1 hg,fun e he=>⟨hk.wd (h2 e he).1 hG,hk.wd (h2 e he).2 hG⟩,h3⟩
theorem Fr.zero_iff {w:World} {na:Bool} {A:Option Addr} {n c:Nat} {nb:Bool} {B:Option Addr} {m d:Nat} {r:Rat} (h:Fr w na A n c nb B m d r):n=0 ↔ r=0:=by
 have h1:=h.1.lim.len;have h2:=length_digits_pos (v:=r.num.natAbs)
 constructor
 ·intro hn
  have:r.num=0:=by omega
  exact Rat.num_eq_zero.1 this
 ·rintro rfl
  have:(0:Rat).num.natAbs=0:=rfl;omega
theorem Zcm (es fs:List WE):Zan (es ++ fs)=Zan es ++ Zan fs:=by
 induction es with
 | nil=>rfl
 | cons e l ih=>simp only [List.cons_append,Zan,ih]
theorem Zr1 (fs:List WE):∀ u ∈ Zan fs,u.oneCell'=true:=by
 induction fs with
 | nil=>intro u h;simp [Zan] at h
 | cons e l ih =>
  intro u h;simp only [Zan,List.mem_cons] at h
  rcases h with rfl | rfl | h
  ·rfl
  ·rfl
  ·exact ih u h
theorem Zh1 (k:Nat):(Builtin.zeroCells #[.bool false,.slice none 0 0] k).toList=Zan (List.replicate k Zcj):=by
 rw [Zkf];unfold Builtin.zeroCells madeCells
 apply List.ext_getElem?
 intro i
 by_cases h:i < k * 2
 ·simp [h]
 ·simp [h]
def RowW (t:TypeId) (w:World) (base:Nat) (v:Value) (es:List WE):Prop:=
 (v=.slice none 0 0/\es=[]) \/ ∃ g sp,v=.slice (some ⟨g,0,none⟩) es.length (es.length+sp)/\base <= g/\es.length+sp <= maxLen/\Blk w g t (Zbl (es ++ List.replicate sp Zcj))
section
variable {t:TypeId} {w w':World} {base:Nat} {v:Value} {es:List WE}
theorem RowW.own (h:RowW t w base v es):w.ownsRow base t 2 v es.length (Zan es):=by
 refine ⟨Za6 es,?_⟩
 rcases h with ⟨h1,rfl⟩ | ⟨g,sp,h1,h2,h3,h4⟩
 ·exact .inl ⟨h1,rfl⟩
 ·refine .inr ⟨g,_,_,h1,h2,h4,Nat.le_add_right _ _,h3,?_,?_⟩
  ·simp [Zbl,Za6]
  ·simp only [Zbl]
   rw [Zcm,<- Za6 es];exact List.take_left
theorem RowW.row_ge (h:RowW t w base v es):∀ k,v.ownBlock=some k->base <= k:=fun k hk=>(h.own.lt k hk).1
theorem RowW.kept (h:RowW t w base v es) (hb:Below w.heap.size w w'):RowW t w' base v es:=by
 rcases h with h | ⟨g,sp,h1,h2,h3,h4⟩
 ·exact .inl h
 ·exact .inr ⟨g,sp,h1,h2,h3,Zc hb h4⟩
theorem RowW.keep (h:RowW t w base v es) (hg:w.grownBy w' v.ownBlock) {A:Option Addr} {n c:Nat} {l:List Nat} (hL:Lim w A n c l):Lim w' A n c l:=by
 refine ⟨hL.1,hL.2.1,hL.2.2.1,hL.2.2.2.1,fun hn=>?_⟩;obtain ⟨b,o,e,hc⟩:=hL.2.2.2.2 hn;refine ⟨b,o,e,fun k hk=>?_⟩;rw [<- hc k hk];refine World.cell?_of_block (hg.block b (Zp (hc k hk)) (fun e'=>?_))
 rcases h with ⟨rfl,_⟩ | ⟨g,sp,rfl,_,_,h4⟩
 ·cases e'
 ·have hbg:b=g:=by simpa [Value.ownBlock] using e'
  subst hbg;have h1:=hc k hk;rw [h4.cell] at h1;exact Zc2 _ _ _ h1
end
section
variable {P:Program} (w:World)
end
def OwnP (t:TypeId) (w:World) (base:Nat) (v:Value) (xs:List Int):Prop:=∃ es,RowW t w base v es/\(∀ e ∈ es,Lim w e.A e.n e.c e.l/\e.ok=true)/\es.map WE.num=xs
section
variable {t:TypeId} {w w':World} {base:Nat} {v:Value} {xs:List Int}
theorem OwnP.nil (t:TypeId) (w:World) (base:Nat):OwnP t w base (.slice none 0 0) []:=⟨[],.inl ⟨rfl,rfl⟩,fun e h=>by simp at h,rfl⟩
theorem OwnP.kept (h:OwnP t w base v xs) (hb:Below w.heap.size w w'):OwnP t w' base v xs:=by
 obtain ⟨es,h1,h2,h3⟩:=h;exact ⟨es,h1.kept hb,fun e he=>⟨(h2 e he).1.below hb,(h2 e he).2⟩,h3⟩
theorem OwnP.row_ge (h:OwnP t w base v xs):∀ k,v.ownBlock=some k->base <= k:=by obtain ⟨es,h1,_⟩:=h;exact h1.row_ge
theorem OwnP.poly (h:OwnP t w base v xs):∃ A c,v=.slice A xs.length c/\PolyL w A xs.length c xs:=by
 obtain ⟨es,h1,h2,rfl⟩:=h
 rcases h1 with ⟨rfl,rfl⟩ | ⟨g,sp,rfl,h4,h5,h6⟩
 ·exact ⟨none,0,rfl,[],⟨rfl,Nat.le_refl _,Nat.zero_le _,fun h=>absurd h (by simp),fun e h=>by simp at h⟩,rfl,fun e h=>by simp at h⟩
 ·rw [List.length_map]
  refine ⟨_,es.length+sp,rfl,es,⟨rfl,Nat.le_add_right _ _,h5,fun _=>⟨g,0,rfl,fun k e he=>?_⟩,fun e he=>(h2 e he).1⟩,rfl,fun e he=>(h2 e he).2⟩;have hk:k < es.length:=(List.getElem?_eq_some_iff.1 he).1;have hc:=Zir (es:=es ++ List.replicate sp Zcj) (i:=k) (e:=e) (by rw [List.getElem?_append_left hk];exact he);rw [Nat.zero_add,h6.cell,h6.cell];exact hc
theorem Zbz (b:Bool) (A:Option Addr) (n c:Nat):NoLimb #[.bool b,.slice A n c]:=fun i x=>by
 match i with
 | 0=>simp
 | 1=>simp
 | i+2=>simp
theorem Wd.of_keep {neg:Bool} {A:Option Addr} {n c:Nat} {z:Int} (hk:∀ (A:Option Addr) (n c:Nat) (l:List Nat),Lim w A n c l->Lim w' A n c l) (h:Wd w neg A n c z):Wd w' neg A n c z:=⟨h.1,h.2.1,hk _ _ _ _ h.2.2⟩
end
theorem OwnP.snoc {t:TypeId} {w:World} {base:Nat} {v:Value} {xs:List Int} {neg:Bool} {A:Option Addr} {n c:Nat} {z:Int} {W:World} (h:OwnP t w base v (xs ++ [⟨neg,A,n,c,digits z.natAbs⟩].map WE.num)) (hW:Wd W neg A n c z):OwnP t w base v (xs ++ [z]):=by
 rw [List.map_cons,List.map_nil,show WE.num ⟨neg,A,n,c,digits z.natAbs⟩=z from hW.sgEq] at h;exact h
section
variable {P:Program} (w:World)
end
end Go.Proofs.YtigdclhagmnopaaGreat
