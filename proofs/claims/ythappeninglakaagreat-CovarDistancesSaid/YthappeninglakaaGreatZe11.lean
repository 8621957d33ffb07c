/- The reference of linear: echelon. The reference of frac: -/
import Derived.Test.YthappeninglakaaGreatZe10
set_option maxRecDepth 100000
set_option maxHeartbeats 2000000
set_option linter.unusedSimpArgs false
set_option linter.unusedVariables false
namespace Go.Proofs.YthappeninglakaaGreat
open Go.RowKit
open Below renaming refl→Qa
open List renaming mem_of_getElem?→Qb,eq_nil_of_length_eq_zero→Qc
open Nat renaming lt_of_lt_of_le→Qd,le_trans→Qe,lt_or_ge→Qf,zero_le→Qg
attribute [local go_sem] Zg
theorem BdR.mono{C D C' D' m:Nat}{R:List (List Rat)}(h:BdR C D m R)(hC:C<=C')(hD:D<=D'):BdR C' D' m R:=⟨h.1,λi j=>⟨Qd (h.2 i j).1 hC,Qd (h.2 i j).2 hD⟩⟩
theorem Zm6{C D C' D' m:Nat}(hC:C<=C')(hD:D<=D'):∀ (f c r:Nat) (R:List (List Rat)),okR C D m f c r R->okR C' D' m f c r R
 | 0,_,_,_,h=>BdR.mono h hC hD
 | f+1,c,r,R,h=>⟨h.1.mono hC hD,h.2.imp id (λ⟨h1,h2⟩=>⟨λe=>Zm6 hC hD f _ _ _ (h1 e),λe=>Zm6 hC hD f _ _ _ (h2 e)⟩)⟩
def IdxB(w:World)(b:Bool)(e:Ending)(w':World):Prop:=∃ i:Int,e=.returned (.int .i64 i)/\decide (0<=i)=b/\Below w.heap.size w w'
theorem EB{G:Prop}(h:G:=by
 go_wp2_with fail;go_ret;exact⟨rfl,(by first|exact Gs aq ab|exact(Zf aq _).trans (ab.mono aq.size))⟩):G:=h
theorem CP{G:Prop}(h:G:=by
 go_wp2_with fail;refine(hC.out _ (by first|exact aq|exact Zf aq _)).mono ?_;rintro e w1 ⟨rfl,ab⟩;simp only[Zfr,if_true];exact EB):G:=h
theorem CS{G:Prop}(h:G:=by
 go_wp2_with fail;refine(hC.out _ (by first|exact aq|exact Zf aq _)).mono ?_;rintro e w1 ⟨rfl,ab⟩;simp only[Zfr,Bool.false_eq_true,if_false];exact EB):G:=h
theorem Z0z(na nb:Bool)(A B:Option Addr)(n c m d:Nat)(la lb:List Nat)(w:World)(ha:Lim w A n c la)(hb:Lim w B m d lb)(b:Bool)(hx:(decide (max n m<=8) && okF na la nb lb)=b) :
    Calls Tryz.prog 192 #[.agg #[.bool na,.slice A n c,.bool nb,.slice B m d]] w λe w'=>e=.returned (.bool (!b))/\Below w.heap.size w w':=by
 obtain⟨W0,C,aq,q0,s0⟩:=Zan w 41 #[.bool na,.slice A n c,.bool nb,.slice B m d];obtain⟨a0,a1,a2,a3,-⟩:=q0.four;have u:=Qe ha.2.1 ha.2.2.1;have o:=Qe hb.2.1 hb.2.2.1;unfold maxLen at u o;obtain⟨y,hy⟩:=Gz (okF na la nb lb);rw[hy]at hx;have hC:=Zb (λW1 (h1:Below w.heap.size w W1)=>Zme na nb A B n c m d la lb W1 (ha.below h1) (hb.below h1) y hy);clear ha hb hy;have hmx:max (n:Int) (m:Int)=((max n m:Nat):Int):=Gk;by_cases h8:max n m<=8
 ·have t1:decide ((8:Int)<((max n m:Nat):Int))=false:=Gu Gk
  have h:decide (8<max n m)=false:=Gu Gk;have f:decide ((8:Int)<max (n:Int) (m:Int))=false:=Gu Gk;rw[Gv h8,Bool.true_and]at hx;subst hx;cases y
  ·go_in
   exact CS
  go_in
  exact CP
 have t1:decide ((8:Int)<((max n m:Nat):Int))=true:=Gv Gk;have h:decide (8<max n m)=true:=Gv Gk;have f:decide ((8:Int)<max (n:Int) (m:Int))=true:=Gv Gk;rw[Gu h8,Bool.false_and]at hx;subst hx;go_in;exact Iu
theorem Fj{G:Prop}(h:G:=by
 go_wp2_with fail;go_ret;exact⟨-1,rfl,rfl,aH⟩):G:=h
theorem Eb{G:Prop}(h:G:=by
 rw[List.all_eq_true];intro e he;obtain⟨j,hj,fX⟩:=List.getElem_of_mem he;exact au.out j e (by rw[hl.out]at hj;exact hj) (by rw[List.getElem?_eq_getElem hj,fX])):G:=h
theorem Ek{G:Prop}(h:G:=by
 rintro e' w1 ⟨rfl,ab⟩;go_wp2_with fail;go_ret;exact⟨i,rfl,by simp,(by first|exact Gs aH ab|exact(Zf aH _).trans (ab.mono aH.size))⟩):G:=h
theorem Ep{G:Prop}(h:G:=by
 rintro e' w1 ⟨rfl,ab⟩;go_wp2_with fail
 go_roundw
 case rel=>exact⟨i+1,by omega,by go_num,ay,(by first|exact Gs aH ab|exact(Zf aH _).trans (ab.mono aH.size))⟩
 case measure=>simp[intOf];omega):G:=h
theorem CQ{G:Prop}(h:G:=by
 replace he:=Zb he;clear hx;go_wp2_with fail;refine(hC.out _ (by first|exact Below.refl _ _|exact Zf (Below.refl _ _) _)).mono ?_;exact Ep):G:=h
theorem CR{G:Prop}(h:G:=by
 replace he:=Zb he;clear hx;go_wp2_with fail;refine(hC.out _ (by first|exact Below.refl _ _|exact Zf (Below.refl _ _) _)).mono ?_;exact Ek):G:=h
theorem Zzx(A:Option Addr)(n c:Nat)(es:List FX)(w:World)(h:FXL w A n c es)(b:Bool)(hb:Zex es=b) :
    Calls Tryz.prog 150 #[.slice A n c,.func (.func 192) #[] #[]] w (IdxB w (!b)):=by
 have hl:=h.1;have I:=h.2.1;have y:=h.2.2.1;unfold maxLen at y;replace hl:=Zb hl;replace hb:=Zb hb;replace h:=Zb h;go_in;go_wp2_with fail
 go_loopw [8] (λiv wr=>∃ i:Nat,i<=n/\iv=.int .i64 i/\Hid (∀ j e,j<i->es[j]?=some e->e.fine=true)/\Below w.heap.size w wr) (λiv _=>n-(intOf iv).toNat)
 case atStart=>exact⟨0,Qg _,rfl,Zb (λj e hj=>by omega),Qa _ _⟩
 case round =>
  obtain⟨i,J,rfl,au,aH⟩:=hrel;by_cases hin:i<n
  case neg =>
   obtain rfl:n=i:=Gk;have C:decide ((n:Int)<(n:Int))=false:=Gh
   obtain rfl:b=true:=by
    rw[<- hb.out];unfold Zex;exact Eb
   exact Fj
  have C:decide ((i:Int)<(n:Int))=true:=Gv Gk;obtain⟨g,o,e,rfl,he,hc,f,u⟩:=(h.out.below aH).at_ hin;obtain⟨c0,c1,c2,c3⟩:=hc;obtain⟨x,hx⟩:=Gz e.fine;have hC:=Zb (λW1 (hb:Below wr.heap.size wr W1)=>Z0z e.na e.nb e.A e.B e.n e.c e.m e.d e.la e.lb W1 (f.below hb) (u.below hb) x hx);clear f u;cases x
  ·obtain rfl:b=false:=by
     rw[<- hb.out];unfold Zex;rw[List.all_eq_false];exact⟨e,Qb he,by rw[hx];decide⟩
   exact CR
  have ay:Hid (∀ j e,j<i+1->es[j]?=some e->e.fine=true):=Zb (λj e' hj he'=>by
    rcases Qf j i with h'|h';exact au.out j e' h' he';obtain rfl:j=i:=Gk;rw[he]at he';cases he';exact hx)
  exact CQ
theorem EX{G:Prop}(h:G:=by
 rintro e w1 ⟨i,rfl,hi,ab⟩;replace hi:=Zb hi;go_wp2_with fail;go_ret;exact⟨Ze8 hi.out,ab⟩):G:=h
theorem Zxq(A:Option Addr)(n c:Nat)(es:List FX)(w:World)(h:FXL w A n c es)(b:Bool)(hb:Zex es=b) :
    Calls Tryz.prog 108 #[.slice A n c,.func (.func 192) #[] #[]] w λe w'=>e=.returned (.bool (!b))/\Below w.heap.size w w':=by
 go_in;go_wp2_with fail;refine(Zzx A n c es w h b hb).mono ?_;exact EX
theorem Zrp(A:Option Addr)(n c:Nat)(es:List FX)(w:World)(h:FXL w A n c es)(b:Bool)(hb:Zex es=b) :
    Calls Tryz.prog 172 #[.slice A n c] w λe w'=>e=.returned (.bool b)/\Below w.heap.size w w':=by
 go_in;go_wp2_with fail;refine(Zxq A n c es w h b hb).mono ?_;rintro e w1 ⟨rfl,f⟩;go_wp2_with fail;go_ret;exact⟨by simp,f⟩
def RX.long(r:RX):Bool:=decide (12<r.n)
theorem Fu{G:Prop}(h:G:=by
 go_wp2_with fail;go_ret;exact⟨by first|rfl|simp[hd],by first|exact Below.refl _ _|exact Zf (Below.refl _ _) _⟩):G:=h
theorem CB{G:Prop}(h:G:=by
 unfold maxLen at hn;have hd:decide ((12:Int)<(n:Int))=decide (12<n):=decide_eq_decide.2 Gk;go_in;exact Fu):G:=h
theorem Zw5(A:Option Addr)(n c:Nat)(w:World)(hn:n<=maxLen) :
    Calls Tryz.prog 171 #[.slice A n c] w λe w'=>e=.returned (.bool (decide (12<n)))/\Below w.heap.size w w':=by
 exact CB
theorem FXL.nlen{w:World}{A:Option Addr}{n c:Nat}{es:List FX}(h:FXL w A n c es):n<=maxLen:=Qe h.2.1 h.2.2.1
theorem Em{G:Prop}(h:G:=by
 obtain rfl:n=i:=Gk;have fH:decide ((n:Int)<(n:Int))=false:=Gh
 obtain rfl:b=false:=by
  rw[<- hb.out,List.any_eq_false];intro e he;obtain⟨j,hj,fX⟩:=List.getElem_of_mem he;have:=au.out j e (by rw[hl.out]at hj;exact hj) (by rw[List.getElem?_eq_getElem hj,fX]);rw[this];decide
 go_wp2_with fail;go_ret;exact⟨-1,rfl,rfl,aH⟩):G:=h
theorem Cb{G:Prop}(h:G:=by
 rw[Gv hx]at hC;replace he:=Zb he;go_wp2_with fail;refine(hC.out _).mono ?_;exact Ek):G:=h
theorem Cc{G:Prop}(h:G:=by
 rw[Gu hx]at hC;replace he:=Zb he;go_wp2_with fail;refine(hC.out _).mono ?_;exact Ep):G:=h
theorem Zw2(A:Option Addr)(n c:Nat)(rs:List RX)(w:World)(h:MXL w A n c rs)(b:Bool)(hb:rs.any RX.long=b) :
    Calls Tryz.prog 146 #[.slice A n c,.func (.func 171) #[] #[]] w (IdxB w b):=by
 have hl:=h.1;have u:=h.2.1;have f:=h.2.2.1;unfold maxLen at f;replace hl:=Zb hl;replace hb:=Zb hb;replace h:=Zb h;go_in;go_wp2_with fail
 go_loopw [8] (λiv wr=>∃ i:Nat,i<=n/\iv=.int .i64 i/\Hid (∀ j e,j<i->rs[j]?=some e->e.long=false)/\Below w.heap.size w wr) (λiv _=>n-(intOf iv).toNat)
 case atStart=>exact⟨0,Qg _,rfl,Zb (λj e hj=>by omega),Qa _ _⟩
 case round =>
  obtain⟨i,y,rfl,au,aH⟩:=hrel;by_cases hin:i<n
  case neg =>
   exact Em
  have fH:decide ((i:Int)<(n:Int))=true:=Gv Gk;obtain⟨g,o,r,rfl,he,c0,hL⟩:=(h.out.below aH).at_ hin;have hC:=Zb (λW1=>Zw5 r.A r.n r.c W1 hL.nlen);clear hL;by_cases hx:12<r.n
  ·obtain rfl:b=true:=by
     rw[<- hb.out,List.any_eq_true];exact⟨r,Qb he,by unfold RX.long;simpa using hx⟩
   exact Cb
  have ay:Hid (∀ j e,j<i+1->rs[j]?=some e->e.long=false):=Zb (λj e' hj he'=>by
    rcases Qf j i with h'|h';exact au.out j e' h' he';obtain rfl:j=i:=Gk;rw[he]at he';cases he';unfold RX.long;simpa using hx)
  exact Cc
theorem Zub(A:Option Addr)(n c:Nat)(rs:List RX)(w:World)(h:MXL w A n c rs)(b:Bool)(hb:rs.any RX.long=b) :
    Calls Tryz.prog 105 #[.slice A n c,.func (.func 171) #[] #[]] w λe w'=>e=.returned (.bool b)/\Below w.heap.size w w':=by
 go_in;go_wp2_with fail;refine(Zw2 A n c rs w h b hb).mono ?_;exact EX
def n0R(rs:List RX):Nat:=(rs[0]?.map RX.n).getD 0
def Zhf(k:Nat)(r:RX):Bool:=decide (r.n=k) && Zex r.es
def Zhy(rs:List RX):Bool:=decide (12<rs.length) || rs.any RX.long
def Zg4(rs:List RX):Int:=if Zhy rs=true then 4 else if n0R rs=0 then 8 else if rs.all (Zhf (n0R rs))=true then 0 else 8
def sqE(rs:List RX):Int:=if Zg4 rs=0 then (if rs.length=n0R rs then 0 else 8)else Zg4 rs
theorem Zpj{rs:List RX}(h:Zhy rs=true):Zg4 rs=4:=by unfold Zg4;rw[Gx h]
theorem Zpm{rs:List RX}(h:Zhy rs=false)(h0:n0R rs=0):Zg4 rs=8:=by unfold Zg4;rw[Gw (by simp[h]),Gx h0]
theorem IX{G:Prop}(h:G:=by
 rw[Gw (by simp[h]),Gw h0,Gw];intro e;rw[List.all_eq_true]at e;have:=e r hr;rw[hb]at this;cases this):G:=h
theorem Z0n{rs:List RX}(h:Zhy rs=false)(h0:n0R rs≠0){r:RX}(hr:r ∈ rs)(hb:Zhf (n0R rs) r=false):Zg4 rs=8:=by
 unfold Zg4;exact IX
theorem matE_ok{rs:List RX}(h:Zhy rs=false)(h0:n0R rs≠0)(ha:rs.all (Zhf (n0R rs))=true):Zg4 rs=0:=by
 unfold Zg4;rw[Gw (by simp[h]),Gw h0,Gx ha]
theorem Zzm{rs:List RX}{r:RX}(h:rs[0]?=some r):n0R rs=r.n:=by unfold n0R;rw[h];rfl
theorem Fl{G:Prop}(h:G:=by
 clear h;go_in;go_wp2_with fail;refine(hC.out _ (by first|exact Below.refl _ _|exact Zf (Below.refl _ _) _)).mono ?_;rintro e w1 ⟨rfl,ab⟩;go_wp2_with fail;go_ret;exact⟨rfl,by first|exact ab|exact(Zf (Below.refl _ _) _).trans ab⟩):G:=h
theorem Fo{G:Prop}(h:G:=by
 go_wp2_with fail;go_ret;exact⟨rfl,by first|exact Below.refl _ _|exact Zf (Below.refl _ _) _⟩):G:=h
theorem Zvp(A:Option Addr)(n c:Nat)(rs:List RX)(w:World)(h:MXL w A n c rs)(E:Int)(hE:Zg4 rs=E) :
    Calls Tryz.prog 126 #[.slice A n c] w λe w'=>e=.returned (.int .i64 E)/\Below w.heap.size w w':=by
 have hl:=h.1;have a6:=h.2.1;have Y:=h.2.2.1;unfold maxLen at Y;replace hE:=Zb hE;by_cases h12:12<n
 ·have t1:decide ((12:Int)<(n:Int))=true:=Gv Gk
  obtain rfl:E=4:=by rw[<- hE.out];exact Zpj (by unfold Zhy;rw[hl,Gv h12];rfl)
  go_in;exact Fo
 have t1:decide ((12:Int)<(n:Int))=false:=Gu Gk;obtain⟨x,hx⟩:=Gz (rs.any RX.long);have C:Zhy rs=x:=by unfold Zhy;rw[hl,Gu h12,hx];rfl
 have hC:=Zb (λW1 (hb:Below w.heap.size w W1)=>Zub A n c rs W1 (h.below hb) x hx);clear hx;replace C:=Zb C;cases x
 case true =>
  obtain rfl:E=4:=by rw[<- hE.out];exact Zpj C.out
  exact Fl
 by_cases hn0:n=0
 ·subst hn0
  obtain rfl:E=8:=by
   rw[<- hE.out];have:rs=[]:=Qc hl;exact Zpm C.out (by rw[this];rfl)
  exact Fl
 have t2:((n:Int) == 0)=false:=by simp;omega
 have a3:decide (n=0)=false:=by simpa using hn0
 obtain⟨g,o,r0,rfl,T,c0,V⟩:=h.at_ (k:=0) Gk;have U:=V.nlen;unfold maxLen at U;have f:=Zzm T;clear T V;rw[Nat.add_zero]at c0;have a5:=Zo c0;by_cases hz:r0.n=0
 ·obtain rfl:E=8:=by rw[<- hE.out];exact Zpm C.out (by rw[f,hz])
  have t3:((r0.n:Int) == 0)=true:=by simp[hz]
  have a0:decide (r0.n=0)=true:=by simpa using hz
  replace h:=Zb h;replace f:=Zb f;replace hz:=Zb hz;go_in;go_wp2_with fail;refine(hC.out _ (by first|exact Qa _ _|exact Zf (Qa _ _) _)).mono ?_;rintro e w1 ⟨rfl,ab⟩;have y:Below w.heap.size w w1:=by first|exact ab|exact(Zf (Qa _ _) _).trans ab
  have k0:=Za y c0;clear c0;go_wp2_with fail;go_ret;exact⟨rfl,y⟩
 have t3:((r0.n:Int) == 0)=false:=by simpa using hz
 have a0:decide (r0.n=0)=false:=by simpa using hz
 replace h:=Zb h;replace hl:=Zb hl;replace f:=Zb f;replace hz:=Zb hz;go_in;go_wp2_with fail;refine(hC.out _ (by first|exact Qa _ _|exact Zf (Qa _ _) _)).mono ?_;rintro e w1 ⟨rfl,ab⟩;have y:Below w.heap.size w w1:=by first|exact ab|exact(Zf (Qa _ _) _).trans ab
 have k0:=Za y c0;clear ab hC;go_wp2_with fail
 go_loopw [24] (λiv wr=>∃ i:Nat,i<=n/\iv=.int .i64 i/\Hid (∀ j e,j<i->rs[j]?=some e->Zhf (n0R rs) e=true)/\Below w.heap.size w wr) (λiv _=>n-(intOf iv).toNat)
 case atStart=>exact⟨0,Qg _,rfl,Zb (λj e hj=>by omega),(by first|exact y|exact Zf y _)⟩
 case round =>
  clear k0 y;obtain⟨i,a4,rfl,au,u⟩:=hrel;have k0:=Za u c0;clear c0;by_cases hin:i<n
  case neg =>
   obtain rfl:n=i:=Gk;have a1:decide ((n:Int)<(n:Int))=false:=Gh
   obtain rfl:E=0:=by
    rw[<- hE.out];refine matE_ok C.out (by rw[f.out];exact hz.out) ?_;exact Eb
   go_wp2_with fail;go_ret;exact⟨rfl,u⟩
  have a1:decide ((i:Int)<(n:Int))=true:=Gv Gk;obtain⟨g',o',r,hA,he,c1,hL⟩:=(h.out.below u).at_ hin;cases hA;have a2:=hL.nlen;unfold maxLen at a2;have bad:Zhf (n0R rs) r=false->E=8:=λhf=>by rw[<- hE.out];exact Z0n C.out (by rw[f.out];exact hz.out) (Qb he) hf
  have good:Zhf (n0R rs) r=true->Hid (∀ j e,j<i+1->rs[j]?=some e->Zhf (n0R rs) e=true):=λhf=>Zb (λj e' hj he'=>by
   rcases Qf j i with h'|h';exact au.out j e' h' he';obtain rfl:j=i:=Gk;rw[he]at he';cases he';exact hf)
  replace bad:=Zb bad;replace good:=Zb good;replace he:=Zb he;by_cases hq:r.n=r0.n
  case neg =>
   have t4:((r.n:Int) == (r0.n:Int))=false:=beq_eq_false_iff_ne.2 Gk;have t5:((r.n:Int) != (r0.n:Int))=true:=by rw[bne,t4];rfl
   have O:decide (r.n=r0.n)=false:=by simpa using hq
   obtain rfl:E=8:=bad.out (by unfold Zhf;rw[f.out,O];rfl);clear hL;go_wp2_with fail;go_ret;exact⟨rfl,by first|exact u|exact Zf u _⟩
  have t4:((r.n:Int) == (r0.n:Int))=true:=beq_iff_eq.2 Gk;have t5:((r.n:Int) != (r0.n:Int))=false:=by rw[bne,t4];rfl
  have O:decide (r.n=r0.n)=true:=by simpa using hq
  obtain⟨x,hx⟩:=Gz (Zex r.es);have hC:=Zb (λW1 (hb:Below wr.heap.size wr W1)=>Zrp r.A r.n r.c r.es W1 (hL.below hb) x hx);replace hx:=Zb hx;replace hq:=Zb hq;clear hL;cases x
  ·obtain rfl:E=8:=bad.out (by unfold Zhf;rw[hx.out];simp)
   go_wp2_with fail;refine(hC.out _ (by first|exact Qa _ _|exact Zf (Qa _ _) _)).mono ?_;rintro e' w2 ⟨rfl,I⟩;go_wp2_with fail;go_ret;exact⟨rfl,(by first|exact Gs u I|exact(Zf u _).trans (I.mono u.size))⟩
  have J:=good.out (by unfold Zhf;rw[f.out,O,hx.out];rfl);go_wp2_with fail;refine(hC.out _ (by first|exact Qa _ _|exact Zf (Qa _ _) _)).mono ?_;rintro e' w2 ⟨rfl,I⟩;go_wp2_with fail
  go_roundw
  case rel=>exact⟨i+1,by omega,by go_num,J,(by first|exact Gs u I|exact(Zf u _).trans (I.mono u.size))⟩
  case measure=>simp[intOf];omega
theorem Zsq(A:Option Addr)(n c:Nat)(rs:List RX)(w:World)(h:MXL w A n c rs)(E:Int)(hE:sqE rs=E) :
    Calls Tryz.prog 80 #[.slice A n c] w λe w'=>e=.returned (.int .i64 E)/\Below w.heap.size w w':=by
 have hl:=h.1;have U:=h.2.1;have I:=h.2.2.1;unfold maxLen at I;obtain⟨F,hF⟩:=Gz (Zg4 rs);go_in;go_wp2_with fail;refine(Zvp A n c rs w h F hF).mono ?_;rintro e w1 ⟨rfl,f⟩;unfold sqE at hE;rw[hF]at hE;by_cases hF0:F=0
 case neg =>
  have t1:(F == 0)=false:=by simpa using hF0
  have T:decide (F=0)=false:=by simpa using hF0
  rw[Gw hF0]at hE;subst hE;replace hF:=Zb hF;go_wp2_with fail;go_ret;exact⟨rfl,f⟩
 subst hF0;rw[Gx rfl]at hE
 have O:0<n:=by
  rcases Nat.eq_zero_or_pos n with h0|h0
  ·exfalso
   have:rs=[]:=Qc Gk;subst this;exact absurd hF Gj
  exact h0
 obtain⟨g,o,r0,rfl,u,c0,C⟩:=h.at_ (k:=0) O;have y:=C.nlen;unfold maxLen at y;rw[Zzm u,hl]at hE;rw[Nat.add_zero]at c0;replace c0:=Za f c0;replace u:=Zb u;replace hF:=Zb hF;clear C h;by_cases hq:n=r0.n
 ·have t2:((n:Int) == (r0.n:Int))=true:=beq_iff_eq.2 Gk
  have t5:((n:Int) != (r0.n:Int))=false:=by rw[bne,t2];rfl
  have J:decide (n=r0.n)=true:=by simpa using hq
  rw[Gx hq]at hE;subst hE;replace hq:=Zb hq;go_wp2_with fail;go_ret;exact⟨rfl,f⟩
 have t2:((n:Int) == (r0.n:Int))=false:=beq_eq_false_iff_ne.2 Gk;have t5:((n:Int) != (r0.n:Int))=true:=by rw[bne,t2];rfl
 have J:decide (n=r0.n)=false:=by simpa using hq
 rw[Gw hq]at hE;subst hE;replace hq:=Zb hq;go_wp2_with fail;go_ret;exact⟨rfl,f⟩
