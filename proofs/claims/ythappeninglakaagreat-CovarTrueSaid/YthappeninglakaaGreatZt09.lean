/- Systems of observations in memory: lists of int64, and -/
import Derived.Test.YthappeninglakaaGreatZt07
import Derived.Test.YthappeninglakaaGreatZt08
set_option maxRecDepth 100000
set_option maxHeartbeats 4000000
set_option linter.unusedSimpArgs false
set_option linter.unusedVariables false
namespace Go.Proofs.YthappeninglakaaGreat
open Go.RowKit
open List renaming mem_cons_of_mem→Qa,mem_cons_self→Qc,replicate→Qe,getElem?_eq_getElem→Qf,getElem?_map→Qi,getElem?_eq_none→Qj,all_eq_true→Qm,getElem?_range→Qr,length_append→Qs,range→Qt,length_cons→QA,getElem?_append_left→QD,length_map→QE,getElem?_replicate→QH,filter_cons_of_neg→QI,filter_cons_of_pos→QJ,mem_of_getElem?→QL,eq_nil_of_length_eq_zero→QO,ext_getElem?→QT,mem_or_eq_of_mem_set→QV,take_left→Yc,set_cons_succ→Ye,map_set→Yf,append_assoc→Yj,getElem?_set→Yk,any_eq_true→Ym,getElem_mem→Yn,foldl_cons→Yp,mem_filter→Yq,nil_append→Yr
open _root_.Array renaming getD_eq_getD_getElem?→Qb,getElem?_eq_getElem→Ql,getElem?_setIfInBounds_self→Qu,getElem?_eq_none→Qw,getElem?_setIfInBounds→Qy,setIfInBounds_comm→QG,toList_append→QP
open Below renaming refl→Qd
open Nat renaming le_refl→Qg,le_trans→Qo,lt_or_ge→Qx,mul_le_mul→Qz,zero_le→QB,add_sub_cancel'→QC,lt_of_lt_of_le→QR,mod_two_eq_zero_or_one→QS,gcd_dvd_right→QU,zero_add→QW,le_add_right→QX,gcd_pos_of_pos_left→QZ,lt_irrefl→Yd,add_right_comm→Yg,lt_or_gt_of_ne→Yh,gcd→Yi,lt_succ_self→Yo,div_le_self→Ys
open Bool renaming and_eq_true→Qh,not_eq_true'→Qq,true_and→QK,or_eq_true→QN,not_false→Yb
open Option renaming getD_some→Qk,map_some→Qp,getD_none→QY,map_none→Ya
open Builtin renaming zeroCells→Qn
open Ne renaming symm→Qv
open Rat renaming intCast_mul→QF,intCast_natCast→QQ,divInt_eq_div→Yl
open World renaming cell?_of_block→QM
attribute [local go_sem] Zg
structure RI where
 A:Option Addr
 n:Nat
 c:Nat
 l:List Int
def MIL(w:World)(A:Option Addr)(n c:Nat)(rs:List RI):Prop:=
 rs.length=n/\n<=c/\c<=maxLen/\(∀ r ∈ rs,LimI w r.A r.n r.c r.l)/\(0<n->∃ g o,A=some ⟨g,o,none⟩/\∀ (k:Nat) (r:RI),rs[k]?=some r->w.cell? ⟨g,o+k,none⟩=some (.slice r.A r.n r.c))
section
variable{w w':World}{A:Option Addr}{n c:Nat}{rs:List RI}
theorem MIL.below(h:MIL w A n c rs)(hb:Below w.heap.size w w'):MIL w' A n c rs:=by
 obtain⟨h1,h2,h3,h4,h5⟩:=h;refine⟨h1,h2,h3,λr hr=>(h4 r hr).below hb,λhn=>?_⟩;obtain⟨g,o,e,hc⟩:=h5 hn;exact⟨g,o,e,λk r hr=>(hb.cell (Zn (hc k r hr))).trans (hc k r hr)⟩
theorem MIL.at_(h:MIL w A n c rs){i:Nat}(hi:i<n):∃ g o r,A=some ⟨g,o,none⟩/\rs[i]?=some r/\w.cell? ⟨g,o+i,none⟩=some (.slice r.A r.n r.c)/\LimI w r.A r.n r.c r.l:=by
 obtain⟨h1,h2,h3,h4,h5⟩:=h;obtain⟨g,o,e,hc⟩:=h5 Gk;obtain⟨r,hr⟩:∃ r,rs[i]?=some r:=⟨_,Qf Gk⟩;exact⟨g,o,r,e,hr,hc i r hr,h4 r (QL hr)⟩
theorem LimI.nlen{l:List Int}(h:LimI w A n c l):n<=maxLen:=Qo h.2.1 h.2.2.1
end
def Zho(least x:Int):Bool:=decide (x<least) || decide (1099511627776<x)
def Zdq(least:Int)(l:List Int):Bool:=l.any (Zho least)
theorem Ix{G:Prop}(h:G:=by
 go_in;go_wp2_with fail;go_ret;exact⟨by simp[Zho,t1],by first|exact Below.refl _ _|exact Zf (Below.refl _ _) _⟩):G:=h
theorem Zxb(x least:Int)(g:Nat)(w:World)(hc:w.cell? ⟨g,0,none⟩=some (.int .i64 least))(b:Bool)(hb:Zho least x=b) :
    Calls Tryz.prog 138 #[.int .i64 x,.pointer (some ⟨g,0,none⟩)] w λe w'=>e=.returned (.bool b)/\Below w.heap.size w w':=by
 subst hb;by_cases h1:x<least
 ·have t1:decide (x<least)=true:=Gv h1
  exact Ix
 have t1:decide (x<least)=false:=Gu h1;exact Ix
theorem FD{G:Prop}(h:G:=by
 rw[<- hb.out];unfold Zdq;rw[List.any_eq_true];refine⟨l[i]?.getD 0,?_,hx⟩;have:=hl.out;rw[List.getElem?_eq_getElem Gk];exact List.getElem_mem _):G:=h
theorem Fh{G:Prop}(h:G:=by
 rw[<- hb.out];unfold Zdq;rw[List.any_eq_false];intro e he;obtain⟨j,hj,dK⟩:=List.getElem_of_mem he;have:=au.out j (by rw[hl.out]at hj;exact hj);rw[List.getElem?_eq_getElem hj,dK]at this;simp only[Option.getD_some]at this;rw[this];decide):G:=h
theorem Zyi(A:Option Addr)(n c:Nat)(l:List Int)(least:Int)(p:Nat)(w:World)(h:LimI w A n c l)(hp:w.cell? ⟨p,0,none⟩=some (.int .i64 least))(b:Bool)(hb:Zdq least l=b) :
    Calls Tryz.prog 125 #[.slice A n c,.func (.func 138) #[] #[.pointer (some ⟨p,0,none⟩)]] w (IdxB w b):=by
 have hl:=h.1;have C:=h.2.1;have u:=h.2.2.1;unfold maxLen at u;have hg:=Za h.2.2.2.2;clear h;replace hl:=Za hl;replace hb:=Za hb;replace hp:=Za hp;go_in;go_wp2_with fail
 go_loopw [8] (λiv wr=>∃ i:Nat,i<=n/\iv=.int .i64 i/\Hid (∀ j,j<i->Zho least (l[j]?.getD 0)=false)/\Below w.heap.size w wr) (λiv _=>n-(intOf iv).toNat)
 case atStart=>exact⟨0,QB _,rfl,Za (λj hj=>by omega),Qd _ _⟩
 case round =>
  obtain⟨i,I,rfl,au,ah⟩:=hrel;by_cases hin:i<n
  case neg =>
   obtain rfl:n=i:=Gk;have y:decide ((n:Int)<(n:Int))=false:=Gh
   obtain rfl:b=false:=by
    exact Fh
   exact Fj
  have y:decide ((i:Int)<(n:Int))=true:=Gv Gk;obtain⟨g,o,rfl,f⟩:=hg.out Gk;have c0:=(ah.cell (Zn (f i hin))).trans (f i hin);have hC:=Za (λW1 (h1:Below wr.heap.size wr W1)=>Zxb (l[i]?.getD 0) least p W1 ((h1.cell (QR (Zn hp.out) ah.size)).trans ((ah.cell (Zn hp.out)).trans hp.out)));clear f;obtain⟨x,hx⟩:=Gz (Zho least (l[i]?.getD 0));cases x
  ·have az:Hid (∀ j,j<i+1->Zho least (l[j]?.getD 0)=false):=Za (λj hj=>by
     rcases Qx j i with h'|h';exact au.out j h';obtain rfl:j=i:=Gk;exact hx)
   replace hx:=Za hx;generalize l[i]?.getD 0=z at *;go_wp2_with fail;refine(hC.out _ (by first|exact Qd _ _|exact Zf (Qd _ _) _) _ hx.out).mono ?_;exact Er
  obtain rfl:b=true:=by
    exact FD
  replace hx:=Za hx;generalize l[i]?.getD 0=z at *;go_wp2_with fail;refine(hC.out _ (by first|exact Qd _ _|exact Zf (Qd _ _) _) _ hx.out).mono ?_;exact Em
theorem Zvu(A:Option Addr)(n c:Nat)(l:List Int)(least:Int)(p:Nat)(w:World)(h:LimI w A n c l)(hp:w.cell? ⟨p,0,none⟩=some (.int .i64 least))(b:Bool)(hb:Zdq least l=b) :
    Calls Tryz.prog 77 #[.slice A n c,.func (.func 138) #[] #[.pointer (some ⟨p,0,none⟩)]] w λe w'=>e=.returned (.bool b)/\Below w.heap.size w w':=by
 go_in;go_wp2_with fail;refine(Zyi A n c l least p w h hp b hb).mono ?_;exact EY
theorem Zg5(A:Option Addr)(n c:Nat)(l:List Int)(least:Int)(w:World)(h:LimI w A n c l)(b:Bool)(hb:Zdq least l=b) :
    Calls Tryz.prog 90 #[.slice A n c,.int .i64 least] w λe w'=>e=.returned (.bool b)/\Below w.heap.size w w':=by
 obtain⟨W0,u,f,q0,s0⟩:=Zak w 2 #[.int .i64 least];have q1:=(q0.cell 0:W0.cell? ⟨w.heap.size,0,none⟩=some (.int .i64 least));have hC:=Za (λW1 (h1:Below W0.heap.size W0 W1)=>Zvu A n c l least w.heap.size W1 ((h.below f).below h1) ((h1.cell (Zn q1)).trans q1) b hb);clear h;go_in;go_wp2_with fail;refine(hC.out _ (by first|exact Qd _ _|exact Zf (Qd _ _) _)).mono ?_;rintro e w1 ⟨rfl,o⟩;go_wp2_with fail;go_ret;exact⟨rfl,Gs f o⟩
theorem Zwz(A:Option Addr)(n c:Nat)(w:World)(hn:n<=maxLen) :
    Calls Tryz.prog 89 #[.slice A n c] w λe w'=>e=.returned (.bool (decide (12<n)))/\Below w.heap.size w w':=by
 exact Bz
def RI.long(r:RI):Bool:=decide (12<r.n)
theorem Zxw(A:Option Addr)(n c:Nat)(rs:List RI)(w:World)(h:MIL w A n c rs)(b:Bool)(hb:rs.any RI.long=b) :
    Calls Tryz.prog 79 #[.slice A n c,.func (.func 89) #[] #[]] w (IdxB w b):=by
 have hl:=h.1;have u:=h.2.1;have f:=h.2.2.1;unfold maxLen at f;replace hl:=Za hl;replace hb:=Za hb;replace h:=Za h;go_in;go_wp2_with fail
 go_loopw [8] (λiv wr=>∃ i:Nat,i<=n/\iv=.int .i64 i/\Hid (∀ j e,j<i->rs[j]?=some e->e.long=false)/\Below w.heap.size w wr) (λiv _=>n-(intOf iv).toNat)
 case atStart=>exact⟨0,QB _,rfl,Za (λj e hj=>by omega),Qd _ _⟩
 case round =>
  obtain⟨i,y,rfl,au,ah⟩:=hrel;by_cases hin:i<n
  case neg =>
   exact Eo
  have fg:decide ((i:Int)<(n:Int))=true:=Gv Gk;obtain⟨g,o,r,rfl,he,c0,hL⟩:=(h.out.below ah).at_ hin;have hC:=Za (λW1=>Zwz r.A r.n r.c W1 hL.nlen);clear hL;by_cases hx:12<r.n
  ·obtain rfl:b=true:=by
     rw[<- hb.out,Ym];exact⟨r,QL he,by unfold RI.long;simpa using hx⟩
   exact Ca
  have az:Hid (∀ j e,j<i+1->rs[j]?=some e->e.long=false):=Za (λj e' hj he'=>by
    rcases Qx j i with h'|h';exact au.out j e' h' he';obtain rfl:j=i:=Gk;rw[he]at he';cases he';unfold RI.long;simpa using hx)
  exact Cb
theorem Zvo(A:Option Addr)(n c:Nat)(rs:List RI)(w:World)(h:MIL w A n c rs)(b:Bool)(hb:rs.any RI.long=b) :
    Calls Tryz.prog 41 #[.slice A n c,.func (.func 89) #[] #[]] w λe w'=>e=.returned (.bool b)/\Below w.heap.size w w':=by
 go_in;go_wp2_with fail;refine(Zxw A n c rs w h b hb).mono ?_;exact EY
def n0I(rs:List RI):Nat:=(rs[0]?.map RI.n).getD 0
def Zg3(k:Nat)(r:RI):Bool:=decide (r.n=k) && !Zdq (-1099511627776) r.l
def Zd9(rs:List RI):Bool:=decide (200<rs.length) || rs.any RI.long
def Zn9(rs:List RI)(right weights:List Int):Bool:=
 !decide (n0I rs=0) && (decide (weights.length=rs.length) && (decide (right.length=rs.length) && (!Zdq 1 weights && (!Zdq (-1099511627776) right && rs.all (Zg3 (n0I rs))))))
def Zcx(rs:List RI)(right weights:List Int):Int:=if Zd9 rs=true then 4 else if Zn9 rs right weights=true then 0 else 8
theorem Zox{rs:List RI}{a b:List Int}(h:Zd9 rs=true):Zcx rs a b=4:=by unfold Zcx;rw[Gx h]
theorem Zzl{rs:List RI}{a b:List Int}(h:Zd9 rs=false)(h0:Zn9 rs a b=false):Zcx rs a b=8:=by unfold Zcx;rw[Gw (by simp[h]),Gw (by simp[h0])]
theorem Zwt{rs:List RI}{a b:List Int}(h:Zd9 rs=false)(h0:Zn9 rs a b=true):Zcx rs a b=0:=by unfold Zcx;rw[Gw (by simp[h]),Gx h0]
theorem Z1h{rs:List RI}{r:RI}(h:rs[0]?=some r):n0I rs=r.n:=by unfold n0I;rw[h];rfl
theorem EF{G:Prop}(h:G:=by
 go_wp2_with fail;go_ret;exact⟨rfl,by first|exact ah|exact Zf ah _⟩):G:=h
theorem CN{G:Prop}(h:G:=by
 go_wp2_with fail;go_ret;exact⟨rfl,by first|exact ai|exact Zf ai _⟩):G:=h
theorem EK{G:Prop}(h:G:=by
 go_in;go_wp2_with fail;refine(hC.out _ (by first|exact Below.refl _ _|exact Zf Below.refl _ _ _)).mono ?_;rintro e w1 ⟨rfl,ae⟩;have ai:Below w.heap.size w w1:=by first|exact ae|exact(Below.refl _ _).trans (ae.mono (Below.refl _ _).size)|exact(Zf (Below.refl _ _) _).trans (ae.mono (Below.refl _ _).size)
 clear ae;exact CN):G:=h
theorem El{G:Prop}(h:G:=by
 go_in;go_wp2_with fail;refine(hC.out _ (by first|exact Below.refl _ _|exact Zf Below.refl _ _ _)).mono ?_;rintro e w1 ⟨rfl,ae⟩;have ai:Below w.heap.size w w1:=by first|exact ae|exact(Below.refl _ _).trans (ae.mono (Below.refl _ _).size)|exact(Zf (Below.refl _ _) _).trans (ae.mono (Below.refl _ _).size)
 clear ae;have k1:=Zb ai c0;exact CN):G:=h
theorem CF{G:Prop}(h:G:=by
 obtain rfl:E=0:=by
  refine ab.out ?_;exact Ek
 clear ag;go_wp2_with fail;go_ret;exact⟨rfl,ah⟩):G:=h
theorem Zlk(A B C:Option Addr)(n c m d k e0:Nat)(rs:List RI)(rr ws:List Int)(w:World)(h:MIL w A n c rs)(hr:LimI w B m d rr)(hw:LimI w C k e0 ws)(E:Int)(hE:Zcx rs rr ws=E) :
    Calls Tryz.prog 54 #[.slice A n c,.slice B m d,.slice C k e0] w λe w'=>e=.returned (.int .i64 E)/\Below w.heap.size w w':=by
 have hl:=h.1;have c3:=h.2.1;have b2:=h.2.2.1;have a4:=hr.1;have Y:=hw.1;have b7:=hr.nlen;have b5:=hw.nlen;unfold maxLen at b2 b7 b5;replace hE:=Za hE;by_cases h12:200<n
 ·have t1:decide ((200:Int)<(n:Int))=true:=Gv Gk
  obtain rfl:E=4:=by rw[<- hE.out];exact Zox (by unfold Zd9;rw[hl,Gv h12];rfl)
  go_in;go_wp2_with fail;go_ret;exact⟨rfl,by first|exact Qd _ _|exact Zf Qd _ _ _⟩
 have t1:decide ((200:Int)<(n:Int))=false:=Gu Gk;obtain⟨x,hx⟩:=Gz (rs.any RI.long);have U:Zd9 rs=x:=by unfold Zd9;rw[hl,Gu h12,hx];rfl
 have hC:=Za (λW1 (hb:Below w.heap.size w W1)=>Zvo A n c rs W1 (h.below hb) x hx);clear hx;replace U:=Za U;cases x
 case true =>
  obtain rfl:E=4:=by rw[<- hE.out];exact Zox U.out
  clear h;exact EK
 have ag:Zn9 rs rr ws=false->E=8:=λhf=>by rw[<- hE.out];exact Zzl U.out hf
 have ab:Zn9 rs rr ws=true->E=0:=λhf=>by rw[<- hE.out];exact Zwt U.out hf
 unfold Zn9 at ag ab;rw[a4,Y,hl]at ag ab;replace ag:=Za ag;replace ab:=Za ab;clear hE;by_cases hn0:n=0
 ·subst hn0
  obtain rfl:E=8:=ag.out (by
   have:rs=[]:=QO hl;rw[this];rfl)
  clear h ab ag;exact EK
 have t2:((n:Int) == 0)=false:=by simp;omega
 have b8:decide (n=0)=false:=by simpa using hn0
 obtain⟨g,o,r0,rfl,a8,c0,b1⟩:=h.at_ (i:=0) Gk;have b0:=b1.nlen;unfold maxLen at b0;have I:=Z1h a8;clear a8 b1;rw[Nat.add_zero]at c0;have c2:=Zn c0;rw[I]at ag ab;by_cases hz:r0.n=0
 ·obtain rfl:E=8:=ag.out (by rw[Gv hz];rfl)
  have t3:((r0.n:Int) == 0)=true:=by simp[hz]
  have a9:decide (r0.n=0)=true:=by simpa using hz
  clear ag ab;replace h:=Za h;replace I:=Za I;replace hz:=Za hz;exact El
 have t3:((r0.n:Int) == 0)=false:=by simpa using hz
 have a9:decide (r0.n=0)=false:=by simpa using hz
 rw[a9]at ag ab;replace h:=Za h;replace hl:=Za hl;replace a4:=Za a4;replace Y:=Za Y;replace I:=Za I;replace hz:=Za hz;by_cases O:k=n
 case neg =>
  have t4:((k:Int) == (n:Int))=false:=beq_eq_false_iff_ne.2 Gk;have b6:((k:Int) != (n:Int))=true:=by rw[bne,t4];rfl
  have a6:decide (k=n)=false:=by simpa using O
  obtain rfl:E=8:=ag.out (by rw[a6];rfl);clear ag ab;replace O:=Za O;exact El
 have t4:((k:Int) == (n:Int))=true:=beq_iff_eq.2 Gk;have b6:((k:Int) != (n:Int))=false:=by rw[bne,t4];rfl
 have a6:decide (k=n)=true:=by simpa using O
 rw[Yb,QK,a6,QK]at ag ab;replace O:=Za O;by_cases T:m=n
 case neg =>
  have t5:((m:Int) == (n:Int))=false:=beq_eq_false_iff_ne.2 Gk;have b3:((m:Int) != (n:Int))=true:=by rw[bne,t5];rfl
  have a0:decide (m=n)=false:=by simpa using T
  obtain rfl:E=8:=ag.out (by rw[a0];rfl);clear ag ab;replace T:=Za T;exact El
 have t5:((m:Int) == (n:Int))=true:=beq_iff_eq.2 Gk;have b3:((m:Int) != (n:Int))=false:=by rw[bne,t5];rfl
 have a0:decide (m=n)=true:=by simpa using T
 rw[a0,QK]at ag ab;replace T:=Za T;obtain⟨xw,a2⟩:=Gz (Zdq 1 ws);have hW:=Za (λW1 (hb:Below w.heap.size w W1)=>Zg5 C k e0 ws 1 W1 (hw.below hb) xw a2);rw[a2]at ag ab;clear a2 hw;cases xw
 case true =>
  obtain rfl:E=8:=ag.out rfl;clear ag ab;go_in;go_wp2_with fail;refine(hC.out _ (by first|exact Qd _ _|exact Zf Qd _ _ _)).mono ?_;rintro e w1 ⟨rfl,ae⟩;have ai:Below w.heap.size w w1:=by first|exact ae|exact(Qd _ _).trans (ae.mono (Qd _ _).size)|exact(Zf (Qd _ _) _).trans (ae.mono (Qd _ _).size)
  clear ae;have k1:=Zb ai c0;go_wp2_with fail;refine(hW.out _ (by first|exact ai|exact Zf ai _)).mono ?_;rintro e w2 ⟨rfl,u⟩;have f:Below w.heap.size w w2:=by first|exact u|exact(ai).trans (u.mono (ai).size)|exact(Zf (ai) _).trans (u.mono (ai).size)
  clear u;have k2:=Zb f c0;go_wp2_with fail;go_ret;exact⟨rfl,by first|exact f|exact Zf f _⟩
 rw[Yb,QK]at ag ab;obtain⟨xr,a1⟩:=Gz (Zdq (-1099511627776) rr);have hR:=Za (λW1 (hb:Below w.heap.size w W1)=>Zg5 B m d rr (-1099511627776) W1 (hr.below hb) xr a1);rw[a1]at ag ab;clear a1 hr;cases xr
 case true =>
  obtain rfl:E=8:=ag.out rfl;clear ag ab;go_in;go_wp2_with fail;refine(hC.out _ (by first|exact Qd _ _|exact Zf Qd _ _ _)).mono ?_;rintro e w1 ⟨rfl,ae⟩;have ai:Below w.heap.size w w1:=by first|exact ae|exact(Qd _ _).trans (ae.mono (Qd _ _).size)|exact(Zf (Qd _ _) _).trans (ae.mono (Qd _ _).size)
  clear ae;have k1:=Zb ai c0;go_wp2_with fail;refine(hW.out _ (by first|exact ai|exact Zf ai _)).mono ?_;rintro e w2 ⟨rfl,u⟩;have f:Below w.heap.size w w2:=by first|exact u|exact(ai).trans (u.mono (ai).size)|exact(Zf (ai) _).trans (u.mono (ai).size)
  clear u;have k2:=Zb f c0;go_wp2_with fail;refine(hR.out _ (by first|exact f|exact Zf f _)).mono ?_;rintro e w3 ⟨rfl,y⟩;have J:Below w.heap.size w w3:=by first|exact y|exact(f).trans (y.mono (f).size)|exact(Zf (f) _).trans (y.mono (f).size)
  clear y;have k3:=Zb J c0;go_wp2_with fail;go_ret;exact⟨rfl,by first|exact J|exact Zf J _⟩
 rw[Yb,QK]at ag ab;go_in;go_wp2_with fail;refine(hC.out _ (by first|exact Qd _ _|exact Zf Qd _ _ _)).mono ?_;rintro e w1 ⟨rfl,ae⟩;have ai:Below w.heap.size w w1:=by first|exact ae|exact(Qd _ _).trans (ae.mono (Qd _ _).size)|exact(Zf (Qd _ _) _).trans (ae.mono (Qd _ _).size)
 clear ae;have k1:=Zb ai c0;go_wp2_with fail;refine(hW.out _ (by first|exact ai|exact Zf ai _)).mono ?_;rintro e w2 ⟨rfl,u⟩;have f:Below w.heap.size w w2:=by first|exact u|exact(ai).trans (u.mono (ai).size)|exact(Zf (ai) _).trans (u.mono (ai).size)
 clear u;have k2:=Zb f c0;go_wp2_with fail;refine(hR.out _ (by first|exact f|exact Zf f _)).mono ?_;rintro e w3 ⟨rfl,y⟩;have J:Below w.heap.size w w3:=by first|exact y|exact(f).trans (y.mono (f).size)|exact(Zf (f) _).trans (y.mono (f).size)
 clear y;have k3:=Zb J c0;go_wp2_with fail;clear hC hW hR ai f k1 k2
 go_loopw [50] (λiv wr=>∃ i:Nat,i<=n/\iv=.int .i64 i/\Hid (∀ j e,j<i->rs[j]?=some e->Zg3 r0.n e=true)/\Below w.heap.size w wr) (λiv _=>n-(intOf iv).toNat)
 case atStart=>exact⟨0,QB _,rfl,Za (λj e hj=>by omega),(by first|exact J|exact Zf J _)⟩
 case round =>
  clear k3 J;obtain⟨i,b9,rfl,au,ah⟩:=hrel;have k0:=Zb ah c0;clear c0;by_cases hin:i<n
  case neg =>
   obtain rfl:n=i:=Gk;have b4:decide ((n:Int)<(n:Int))=false:=Gh;exact CF
  have b4:decide ((i:Int)<(n:Int))=true:=Gv Gk;obtain⟨g',o',r,hA,he,c1,hL⟩:=(h.out.below ah).at_ hin;cases hA;have a7:=hL.nlen;unfold maxLen at a7
  have bad:Zg3 r0.n r=false->E=8:=λhf=>ag.out (by
   rw[List.all_eq_false];exact⟨r,QL he,by rw[hf];decide⟩)
  have good:Zg3 r0.n r=true->Hid (∀ j e,j<i+1->rs[j]?=some e->Zg3 r0.n e=true):=λhf=>Za (λj e' hj he'=>by
   rcases Qx j i with h'|h';exact au.out j e' h' he';obtain rfl:j=i:=Gk;rw[he]at he';cases he';exact hf)
  replace bad:=Za bad;replace good:=Za good;replace he:=Za he;clear ag;by_cases hq:r.n=r0.n
  case neg =>
   have t6:((r.n:Int) == (r0.n:Int))=false:=beq_eq_false_iff_ne.2 Gk;have t7:((r.n:Int) != (r0.n:Int))=true:=by rw[bne,t6];rfl
   have a3:decide (r.n=r0.n)=false:=by simpa using hq
   obtain rfl:E=8:=bad.out (by unfold Zg3;rw[a3];rfl);clear hL ab;exact EF
  have t6:((r.n:Int) == (r0.n:Int))=true:=beq_iff_eq.2 Gk;have t7:((r.n:Int) != (r0.n:Int))=false:=by rw[bne,t6];rfl
  have a3:decide (r.n=r0.n)=true:=by simpa using hq
  obtain⟨x,hx⟩:=Gz (Zdq (-1099511627776) r.l);have hC:=Za (λW1 (hb:Below wr.heap.size wr W1)=>Zg5 r.A r.n r.c r.l (-1099511627776) W1 (hL.below hb) x hx);replace hx:=Za hx;replace hq:=Za hq;clear hL;cases x
  ·have a5:=good.out (by unfold Zg3;rw[a3,hx.out];rfl)
   go_wp2_with fail;refine(hC.out _ (by first|exact Qd _ _|exact Zf (Qd _ _) _)).mono ?_;rintro e' w4 ⟨rfl,V⟩;go_wp2_with fail
   go_roundw
   case rel=>exact⟨i+1,by omega,by go_num,a5,(by first|exact Gs ah V|exact(Zf ah _).trans (V.mono ah.size))⟩
   case measure=>simp[intOf];omega
  obtain rfl:E=8:=bad.out (by unfold Zg3;rw[hx.out];simp);clear ab;go_wp2_with fail;refine(hC.out _ (by first|exact Qd _ _|exact Zf (Qd _ _) _)).mono ?_;rintro e' w4 ⟨rfl,V⟩;go_wp2_with fail;go_ret;exact⟨rfl,(by first|exact Gs ah V|exact(Zf ah _).trans (V.mono ah.size))⟩
def PolyL(w:World)(A:Option Addr)(n c:Nat)(xs:List Int):Prop:=∃ es,WL w A n c es/\es.map WE.num=xs/\∀ e ∈ es,e.ok=true
theorem WE.wd{w:World}{e:WE}(h:Lim w e.A e.n e.c e.l)(hk:e.ok=true):Wd w e.neg e.A e.n e.c e.num:=Wd.of_ok h hk
def Zai:List WE->List Value
 | []=>[]
 | e::l=>.bool e.neg :: .slice e.A e.n e.c::Zai l
def Zbw(es:List WE):Array Value:=(Zai es).toArray
theorem Zba(es:List WE):(Zai es).length=es.length*2:=by
 induction es with
 | nil=>rfl
 | cons e l ih=>simp only[Zai,QA,ih];omega
theorem Znd{es:List WE}{i:Nat}{e:WE}(h:es[i]?=some e):(Zai es)[i*2]?=some (.bool e.neg)/\(Zai es)[i*2+1]?=some (.slice e.A e.n e.c):=by
 induction es generalizing i with
 | nil=>simp at h
 | cons a l ih =>
  cases i with
  | zero=>simp at h;subst h;exact⟨rfl,rfl⟩
  | succ i =>
   have:=ih (i:=i) (by simpa using h);rw[show (i+1)*2=i*2+1+1 by omega];simpa [Zai]using this
theorem Zu7{es:List WE}{i:Nat}(e:WE)(h:i<es.length):((Zai es).set (i*2) (.bool e.neg)).set (i*2+1) (.slice e.A e.n e.c)=Zai (es.set i e):=by
 induction es generalizing i with
 | nil=>simp at h
 | cons a l ih =>
  cases i with
  | zero=>rfl
  | succ i =>
   have:=ih (i:=i) (by simpa using h);rw[show (i+1)*2=i*2+1+1 by omega];simp only[Zai,Ye,this]
theorem Zoe(es:List WE):∀ (i x:Nat),(Zai es)[i]?≠some (limb x):=by
 induction es with
 | nil=>intro i x;simp[Zai]
 | cons a l ih =>
  intro i x
  match i with
  | 0=>simp[Zai]
  | 1=>simp[Zai]
  | i+2=>simpa [Zai]using ih i x
theorem Zjo{es:List WE}{i:Nat}{e:WE}(h:es[i]?=some e):(Zbw es)[i*2]?=some (.bool e.neg)/\(Zbw es)[i*2+1]?=some (.slice e.A e.n e.c):=by
 simpa [Zbw]using Znd h
theorem Zt2{es:List WE}{i:Nat}(e:WE)(h:i<es.length):((Zbw es).setIfInBounds (i*2) (.bool e.neg)).setIfInBounds (i*2+1) (.slice e.A e.n e.c)=Zbw (es.set i e):=by
 unfold Zbw;rw[<- Zu7 e h];simp
theorem Zdo(es:List WE):NoLimb (Zbw es):=λi x=>by simpa [Zbw]using Zoe es i x
theorem Zhf(es:List WE)(i:Nat)(b:Bool):NoLimb ((Zbw es).setIfInBounds i (.bool b)):=λj x=>by
 rw[Qy]
 split
 ·split <;> simp
 exact Zdo es j x
def POwn(t:TypeId)(w:World)(g:Nat)(xs:List Int):Prop:=
 ∃ es:List WE,Blk w g t (Zbw es)/\(∀ e ∈ es,Lim w e.A e.n e.c e.l/\e.ok=true)/\es.map WE.num=xs
section
variable{t:TypeId}{w w':World}{g:Nat}{xs:List Int}
theorem POwn.below(h:POwn t w g xs)(hb:Below w.heap.size w w'):POwn t w' g xs:=by
 obtain⟨es,h1,h2,h3⟩:=h;exact⟨es,Zc hb h1,λe he=>⟨(h2 e he).1.below hb,(h2 e he).2⟩,h3⟩
theorem POwn.lt(h:POwn t w g xs):g<w.heap.size:=by obtain⟨es,h1,_⟩:=h;exact h1.lt
theorem POwn.frozen(h:POwn t w g xs)(i:Nat):w.frozen? ⟨g,i,none⟩=false:=by obtain⟨es,h1,_⟩:=h;exact h1.frozen i
theorem POwn.at_(h:POwn t w g xs){i:Nat}(hi:i<xs.length):∃ neg A n c,w.cell? ⟨g,i*2,none⟩=some (.bool neg)/\w.cell? ⟨g,i*2+1,none⟩=some (.slice A n c)/\Wd w neg A n c (xs[i]?.getD 0):=by
 obtain⟨es,h1,h2,rfl⟩:=h;have hl:i<es.length:=by simpa using hi
 have he:=Qf hl;have hc:=Zjo he;have hm:=h2 es[i] (Yn hl);refine⟨es[i].neg,es[i].A,es[i].n,es[i].c,by rw[h1.cell];exact hc.1,by rw[h1.cell];exact hc.2,?_⟩;rw[Qi,he];exact WE.wd hm.1 hm.2
theorem POwn.set_(h:POwn t w g xs){i:Nat}(hi:i<xs.length){neg:Bool}{A:Option Addr}{n c:Nat}{z:Int}(hz:Wd w neg A n c z) :
    POwn t ((w.setCell ⟨g,i*2,none⟩ (.bool neg)).setCell ⟨g,i*2+1,none⟩ (.slice A n c)) g (xs.set i z):=by
 obtain⟨es,h1,h2,rfl⟩:=h;have hl:i<es.length:=by simpa using hi
 have f:Blk (w.setCell ⟨g,i*2,none⟩ (.bool neg)) g t ((Zbw es).setIfInBounds (i*2) (.bool neg)):=h1.set_ _ _;have o:=f.set_ (i*2+1) (.slice A n c);have hs:=Zt2 (es:=es) (i:=i) ⟨neg,A,n,c,digits z.natAbs⟩ hl;dsimp only at hs;rw[hs]at o;have keep:∀ (A':Option Addr) (n' c':Nat) (l:List Nat),Lim w A' n' c' l->Lim ((w.setCell ⟨g,i*2,none⟩ (.bool neg)).setCell ⟨g,i*2+1,none⟩ (.slice A n c)) A' n' c' l:=λ_ _ _ _ h=>(h.set_box h1 (Zdo es) _ _).set_box f (Zhf _ _ _) _ _;refine⟨_,o,λe he=>?_,?_⟩
 ·rcases QV he with he|rfl
  exact⟨keep _ _ _ _ (h2 e he).1,(h2 e he).2⟩;exact⟨keep _ _ _ _ hz.2.2,hz.ok⟩
 rw[Yf];congr 1;exact hz.sgEq
end
def Zct:WE:=⟨false,none,0,0,[]⟩
theorem Zlh(n:Nat):Zai (Qe n Zct)=(madeCells #[.bool false,.slice none 0 0] (n*2)).toList:=by
 apply QT;intro i
 have hm:(madeCells #[.bool false,.slice none 0 0] (n*2)).toList[i]?=if i<n*2 then some ((#[Value.bool false,Value.slice none 0 0])[i%2]!)else none:=by
  unfold madeCells;by_cases h:i<n*2;simp[h];simp[h]
 rw[hm];by_cases h:i<n*2
 ·rw[Gx h]
  have he:(Qe n Zct)[i/2]?=some Zct:=by rw[QH,Gx Gk]
  have hc:=Znd he;rcases QS i with h2|h2;rw[show i/2*2=i by omega]at hc;rw[hc.1,h2];rfl;rw[show i/2*2+1=i by omega]at hc;rw[hc.2,h2];rfl
 rw[Gw h];exact Qj (by rw[Zba];simp;omega)
theorem makeW{P:Program}(t e:TypeId){i:TypeInfo}(ht:P.underlying t=some (.slice e))(hi:P.info? e=some i)(hz:i.zero=some (.agg #[.bool false,.slice none 0 0]))(hs:i.size=2)(hb:i.bytes=32)
    (x:Int) (n:Nat) (hx:x=n) (hn:n<=1000000000000) (W:World) :
    (Instr.makeSlice t (.int .i64 x) (.int .i64 x)).run P W=.ok (.slice (some ⟨W.heap.size,0,none⟩) n n) (W.alloc (.cells (Zbw (Qe n Zct)) e)):=by
 subst hx;have hr:=run_make (P:=P) W t e i _ ht hi hz .i64 .i64 n n Gk Gk (by rw[hb];omega) Gk;simp only[Int.toNat_natCast]at hr;rw[hr]
 have:madeCells (Value.agg #[.bool false,.slice none 0 0]).cells (n*i.size)=Zbw (Qe n Zct):=by
  rw[hs];apply Array.toList_inj.1;unfold Zbw;rw[Zlh];rfl
 rw[this]
theorem POwn.new(t:TypeId)(w:World)(n:Nat):POwn t (w.alloc (.cells (Zbw (Qe n Zct)) t)) w.heap.size (Qe n 0):=
 ⟨Qe n Zct,Blk.new _ _ _,λe he=>by rw[(List.mem_replicate.1 he).2];exact⟨Lim.nil _ _ _ (QB _),rfl⟩,by simp[Zct,WE.num,sg,val]⟩
structure Kept (G:Nat->Prop) (w w':World):Prop where
 os:w'.os=w.os
 tape:w'.tape=w.tape
 output:w'.output=w.output
 size:w.heap.size<=w'.heap.size
 block:∀ k,k<w.heap.size->¬ G k->w'.heap[k]?=w.heap[k]?
section
variable{G:Nat->Prop}{w w' w'':World}
theorem Kept.refl(G:Nat->Prop)(w:World):Kept G w w:=⟨rfl,rfl,rfl,Qg _,λ_ _ _=>rfl⟩
theorem Kept.trans(h:Kept G w w')(k:Kept G w' w''):Kept G w w'':=
 ⟨k.os.trans h.os,k.tape.trans h.tape,k.output.trans h.output,Qo h.size k.size,λi hi hg=>(k.block i (QR hi h.size) hg).trans (h.block i hi hg)⟩
theorem Kept.of_below(h:Below w.heap.size w w'):Kept G w w':=⟨h.os,h.tape,h.output,h.size,λk hk _=>h.block k hk⟩
theorem Kept.below(h:Kept G w w')(k:Below w'.heap.size w' w''):Kept G w w'':=h.trans (Kept.of_below k)
theorem Kept.drewN(h:Kept G w w')(n:Nat):Kept G w (w'.drewN n):=⟨h.os,h.tape,h.output,h.size,h.block⟩
theorem Kept.set_(h:Kept G w w'){p:Addr}(hp:G p.block \/ w.heap.size<=p.block)(u:Value):Kept G w (w'.setCell p u):=
 ⟨h.os,h.tape,h.output,by simp[World.setCell];exact h.size,λk hk hg=>(Below.heap_setCell w' p u k (by rcases hp with hp|hp;exact λe=>hg (e▸hp);omega)).trans (h.block k hk hg)⟩
theorem Kept.blk(h:Kept G w w'){g:Nat}{t:TypeId}{cs:Array Value}(hb:Blk w g t cs)(hg:¬ G g):Blk w' g t cs:=(h.block g hb.lt hg).trans hb
theorem Kept.to_below{B:Nat}(h:Kept G w w')(hG:∀ k,G k->B<=k)(hB:B<=w.heap.size):Below B w w':=
 ⟨h.os,h.tape,h.output,h.size,λk hk=>h.block k (QR hk hB) (λhg=>by have:=hG k hg;omega)⟩
theorem Kept.mono{G':Nat->Prop}(h:Kept G w w')(hG:∀ k,k<w.heap.size->G k->G' k):Kept G' w w':=⟨h.os,h.tape,h.output,h.size,λk hk hg=>h.block k hk (λh=>hg (hG k hk h))⟩
theorem Kept.lim(h:Kept G w w'){A:Option Addr}{n c:Nat}{l:List Nat}(hl:Lim w A n c l)(hG:∀ k,G k->∃ t cs,Blk w k t cs/\NoLimb cs):Lim w' A n c l:=
 ⟨hl.1,hl.2.1,hl.2.2.1,hl.2.2.2.1,λhn=>by
  obtain⟨b,o,e,hc⟩:=hl.2.2.2.2 hn;refine⟨b,o,e,λk hk=>?_⟩;have h0:=hc k hk;refine(QM (w:=w) (h.block b (Zn h0) (λhg=>?_))).trans h0;obtain⟨t,cs,h1,h2⟩:=hG b hg;have h3:=h0;rw[h1.cell]at h3;exact h2 _ _ h3⟩
theorem Kept.wd(h:Kept G w w'){neg:Bool}{A:Option Addr}{n c:Nat}{z:Int}(hl:Wd w neg A n c z)(hG:∀ k,G k->∃ t cs,Blk w k t cs/\NoLimb cs):Wd w' neg A n c z:=⟨hl.1,hl.2.1,h.lim hl.2.2 hG⟩
end
section
variable{t:TypeId}{w:World}{g:Nat}{xs zs:List Int}
theorem POwn.box(h:POwn t w g xs):∃ t cs,Blk w g t cs/\NoLimb cs:=by
 obtain⟨es,h1,-,-⟩:=h;exact⟨t,_,h1,Zdo es⟩
theorem POwn.other{t':TypeId}{g':Nat}{ys:List Int}(h:POwn t w g xs)(h':POwn t' w g' ys)(hne:g≠g')(i:Nat)(b:Bool)(A:Option Addr)(n c:Nat) :
    POwn t ((w.setCell ⟨g',i*2,none⟩ (.bool b)).setCell ⟨g',i*2+1,none⟩ (.slice A n c)) g xs:=by
 obtain⟨es,h1,h2,h3⟩:=h;obtain⟨fs,k1,-,-⟩:=h';refine⟨es,(h1.far hne _).far hne _,λe he=>⟨?_,(h2 e he).2⟩,h3⟩;exact((h2 e he).1.set_box k1 (Zdo fs) _ _).set_box (k1.set_ (i*2) (.bool b)) (Zhf _ _ _) _ _
end
theorem Zu0{es:List FE}{i:Nat}(e:FE)(h:i<es.length):((((Zo es).set (i*4) (.bool e.na)).set (i*4+1) (.slice e.A e.n e.c)).set (i*4+2) (.bool e.nb)).set (i*4+3) (.slice e.B e.m e.d)=Zo (es.set i e):=by
 induction es generalizing i with
 | nil=>simp at h
 | cons a l ih =>
  cases i with
  | zero=>rfl
  | succ i =>
   have:=ih (i:=i) (by simpa using h);rw[show (i+1)*4=i*4+1+1+1+1 by omega];simp only[Zo,Ye,this]
theorem Zhl{es:List FE}{i:Nat}(e:FE)(h:i<es.length):((((Z0 es).setIfInBounds (i*4) (.bool e.na)).setIfInBounds (i*4+1) (.slice e.A e.n e.c)).setIfInBounds (i*4+2) (.bool e.nb)).setIfInBounds (i*4+3) (.slice e.B e.m e.d)=Z0 (es.set i e):=by
 unfold Z0;rw[<- Zu0 e h];simp
theorem Zgk{cs:Array Value}(h:NoLimb cs)(i:Nat){v:Value}(hv:∀ x,v≠limb x):NoLimb (cs.setIfInBounds i v):=λj x=>by
 rw[Qy]
 split
 ·split
  simpa using hv x;simp
 exact h j x
def Zgb(w:World)(g i:Nat)(na:Bool)(A:Option Addr)(n c:Nat)(nb:Bool)(B:Option Addr)(m d:Nat):World:=
 (((w.setCell ⟨g,i*4,none⟩ (.bool na)).setCell ⟨g,i*4+1,none⟩ (.slice A n c)).setCell ⟨g,i*4+2,none⟩ (.bool nb)).setCell ⟨g,i*4+3,none⟩ (.slice B m d)
section
variable{w:World}{g i:Nat}{na:Bool}{A:Option Addr}{n c:Nat}{nb:Bool}{B:Option Addr}{m d:Nat}
theorem Zgc{A':Option Addr}{n' c':Nat}{l:List Nat}{t:TypeId}{cs:Array Value}(h:Lim w A' n' c' l)(hb:Blk w g t cs)(hcs:NoLimb cs):Lim (Zgb w g i na A n c nb B m d) A' n' c' l:=by
 have h1:=hb.set_ (i*4) (.bool na);have l1:=Zgk hcs (i*4) (v:=.bool na) (λx=>by simp);have h2:=h1.set_ (i*4+1) (.slice A n c);have l2:=Zgk l1 (i*4+1) (v:=.slice A n c) (λx=>by simp);have h3:=h2.set_ (i*4+2) (.bool nb);have l3:=Zgk l2 (i*4+2) (v:=.bool nb) (λx=>by simp);exact(((h.set_box hb hcs _ _).set_box h1 l1 _ _).set_box h2 l2 _ _).set_box h3 l3 _ _
theorem Zij{na':Bool}{A':Option Addr}{n' c':Nat}{nb':Bool}{B':Option Addr}{m' d':Nat}{r:Rat}{t:TypeId}{cs:Array Value}(h:Fr w na' A' n' c' nb' B' m' d' r)(hb:Blk w g t cs)(hcs:NoLimb cs):Fr (Zgb w g i na A n c nb B m d) na' A' n' c' nb' B' m' d' r:=
 ⟨⟨h.1.1,h.1.2.1,Zgc h.1.2.2 hb hcs⟩,⟨h.2.1,h.2.2.1,Zgc h.2.2.2 hb hcs⟩⟩
theorem Zj4{g':Nat}{t:TypeId}{cs:Array Value}(h:Blk w g' t cs)(hg:g'≠g):Blk (Zgb w g i na A n c nb B m d) g' t cs:=(((h.far hg _).far hg _).far hg _).far hg _
theorem Zpj{G:Nat->Prop}{w0:World}(h:Kept G w0 w)(hg:G g \/ w0.heap.size<=g):Kept G w0 (Zgb w g i na A n c nb B m d):=
 (((h.set_ (p:=⟨g,i*4,none⟩) hg _).set_ (p:=⟨g,i*4+1,none⟩) hg _).set_ (p:=⟨g,i*4+2,none⟩) hg _).set_ (p:=⟨g,i*4+3,none⟩) hg _
theorem Zjg{b:Nat}{w0:World}(h:Below b w0 w)(hg:b<=g):Below b w0 (Zgb w g i na A n c nb B m d):=
 (((h.setCell (p:=⟨g,i*4,none⟩) hg _).setCell (p:=⟨g,i*4+1,none⟩) hg _).setCell (p:=⟨g,i*4+2,none⟩) hg _).setCell (p:=⟨g,i*4+3,none⟩) hg _
end
def FRaw(t:TypeId)(w:World)(g n:Nat):Prop:=∃ es:List FE,Blk w g t (Z0 es)/\n<=es.length
def FOwn(t:TypeId)(w:World)(g:Nat)(qs:List Rat):Prop:=∃ es zs:List FE,Blk w g t (Z0 (es++zs))/\(∀ e ∈ es,e.in_ w)/\es.map FE.q=qs
section
variable{t:TypeId}{w w':World}{g:Nat}{qs:List Rat}
theorem FRaw.lt{n:Nat}(h:FRaw t w g n):g<w.heap.size:=by obtain⟨es,h1,h2⟩:=h;exact h1.lt
theorem FRaw.box{n:Nat}(h:FRaw t w g n):∃ t cs,Blk w g t cs/\NoLimb cs:=by obtain⟨es,h1,h2⟩:=h;exact⟨t,_,h1,Zcb es⟩
theorem FRaw.cells{n i:Nat}(h:FRaw t w g n)(hi:i<n):∃ na A k c nb B m d,w.cell? ⟨g,i*4,none⟩=some (.bool na)/\w.cell? ⟨g,i*4+1,none⟩=some (.slice A k c)/\w.cell? ⟨g,i*4+2,none⟩=some (.bool nb)/\w.cell? ⟨g,i*4+3,none⟩=some (.slice B m d):=by
 obtain⟨es,h1,hn⟩:=h;have hc:=Zd2 (Qf (show i<es.length by omega));exact⟨_,_,_,_,_,_,_,_,by rw[h1.cell];exact hc.1,by rw[h1.cell];exact hc.2.1,by rw[h1.cell];exact hc.2.2.1,by rw[h1.cell];exact hc.2.2.2⟩
theorem FRaw.frozen{n:Nat}(h:FRaw t w g n)(i:Nat):w.frozen? ⟨g,i,none⟩=false:=by obtain⟨es,h1,-⟩:=h;exact h1.frozen i
theorem FOwn.raw(h:FOwn t w g qs):FRaw t w g qs.length:=by obtain⟨es,zs,h1,h2,rfl⟩:=h;exact⟨es++zs,h1,by simp⟩
theorem FOwn.below(h:FOwn t w g qs)(hb:Below w.heap.size w w'):FOwn t w' g qs:=by
 obtain⟨es,zs,h1,h2,h3⟩:=h;exact⟨es,zs,Zc hb h1,λe he=>(h2 e he).below hb,h3⟩
theorem FOwn.lt(h:FOwn t w g qs):g<w.heap.size:=h.raw.lt
theorem FOwn.box(h:FOwn t w g qs):∃ t cs,Blk w g t cs/\NoLimb cs:=h.raw.box
theorem FOwn.frozen(h:FOwn t w g qs)(i:Nat):w.frozen? ⟨g,i,none⟩=false:=h.raw.frozen i
theorem FOwn.at_(h:FOwn t w g qs){i:Nat}(hi:i<qs.length):∃ na A k c nb B m d,w.cell? ⟨g,i*4,none⟩=some (.bool na)/\w.cell? ⟨g,i*4+1,none⟩=some (.slice A k c)/\w.cell? ⟨g,i*4+2,none⟩=some (.bool nb)/\w.cell? ⟨g,i*4+3,none⟩=some (.slice B m d)/\Fr w na A k c nb B m d (qs[i]?.getD 0):=by
 obtain⟨es,zs,h1,h2,rfl⟩:=h;have hl:i<es.length:=by simpa using hi
 have he:=Qf hl;have hc:=Zd2 (es:=es++zs) (i:=i) (e:=es[i]) (by rw[QD hl];exact he);refine⟨_,_,_,_,_,_,_,_,by rw[h1.cell];exact hc.1,by rw[h1.cell];exact hc.2.1,by rw[h1.cell];exact hc.2.2.1,by rw[h1.cell];exact hc.2.2.2,?_⟩;rw[Qi,he];exact h2 _ (Yn hl)
theorem FOwn.set_(h:FOwn t w g qs){i:Nat}(hi:i<qs.length){na:Bool}{A:Option Addr}{k c:Nat}{nb:Bool}{B:Option Addr}{m d:Nat}{r:Rat}(hr:Fr w na A k c nb B m d r):FOwn t (Zgb w g i na A k c nb B m d) g (qs.set i r):=by
 obtain⟨es,zs,h1,h2,rfl⟩:=h;have hl:i<es.length:=by simpa using hi
 have h3:=(((h1.set_ (i*4) (.bool na)).set_ (i*4+1) (.slice A k c)).set_ (i*4+2) (.bool nb)).set_ (i*4+3) (.slice B m d);have hs:=Zhl (es:=es++zs) (i:=i) ⟨na,A,k,c,nb,B,m,d,r⟩ (by rw[Qs];omega);dsimp only at hs;rw[hs,List.set_append_left _ _ hl]at h3;refine⟨_,zs,h3,λe he=>?_,by rw[Yf]⟩;rcases QV he with he|rfl;exact Zij (h2 e he) h1 (Zcb _);exact Zij hr h1 (Zcb _)
theorem FOwn.other{g' i:Nat}{na:Bool}{A:Option Addr}{k c:Nat}{nb:Bool}{B:Option Addr}{m d:Nat}(h:FOwn t w g qs)(hne:g≠g')(hb:∃ t cs,Blk w g' t cs/\NoLimb cs):FOwn t (Zgb w g' i na A k c nb B m d) g qs:=by
 obtain⟨es,zs,h1,h2,h3⟩:=h;obtain⟨t',cs,hb,f⟩:=hb;exact⟨es,zs,Zj4 h1 hne,λe he=>Zij (h2 e he) hb f,h3⟩
theorem FOwn.fl(h:FOwn t w g qs){c:Nat}(hc:qs.length<=c)(hm:c<=maxLen):FL w (some ⟨g,0,none⟩) qs.length c qs:=by
 obtain⟨es,zs,h1,h2,rfl⟩:=h;rw[QE]at hc ⊢;refine⟨es,rfl,hc,hm,h2,rfl,λ_=>⟨g,0,rfl,λk e he=>?_⟩⟩;have hk:k<es.length:=(List.getElem?_eq_some_iff.1 he).1;have hc:=Zd2 (es:=es++zs) (i:=k) (e:=e) (by rw[QD hk];exact he);simp only[QW,h1.cell];exact hc
theorem OwnF.fown{base:Nat}{v:Value}(h:OwnF t w base v qs):(v=.slice none 0 0/\qs=[]) \/ ∃ g c,v=.slice (some ⟨g,0,none⟩) qs.length c/\base<=g/\qs.length<=c/\c<=maxLen/\FOwn t w g qs:=by
 obtain⟨es,h1,h2,rfl⟩:=h;rcases h1 with ⟨rfl,rfl⟩|⟨g,sp,rfl,h4,h5,h6⟩;exact .inl ⟨rfl,rfl⟩;exact .inr ⟨g,_,by rw[QE],h4,by rw[QE];omega,h5,es,Qe sp Zau,h6,h2,rfl⟩
end
theorem Z1c{t:Array Value}{d:Nat}{u:Value}(h:t[d]?=some u):t.setIfInBounds d u=t:=by
 apply Array.ext;simp;intro i h1 h2;rw[Array.getElem_setIfInBounds (by simpa using h1)]
 split
 ·rename_i e
  subst e;rw[Ql h2]at h;injection h with h
  exact h.symm
 rfl
section
variable{P:Program}{ops:Array Oper}{Q:Exit->Act->World->Prop}{md:Region.Mode}{L:List Nat}{S:World->Prop}{f1 f2 d1 d2 F:Nat}{t1 t2:TypeId}{z1 z2:Array Value}
theorem Zm{i:Nat}{o:Oper}{K:Act->World->Prop}{a:Act}{w:World}(ho:ops[i]?=some o)
    (h:∀ K':Act->World->Prop,Shut (∀ a w,K a w->K' a w)->if Region.wanted o (yielded ops a.tmps)=true then Oper.wp P o a w K' Q else K' (a.put o.dst undef) w):wpOp P ops Q i K a w:=
 wpOp_step ho (λK' hK=>h K' hK)
end
def Zbd(md:Region.Mode)(ops:Array Oper)(i:Nat):List Nat:=match ops[i]? with|some o=>(o.after.toList.filter (λe=>Region.binds md e)).map (·.on)|none=>[]
def Zbn(ops:Array Oper)(i:Nat):Nat:=match ops[i]? with|some o=>o.dst.getD 0|none=>0
def Zbv(R:List Nat)(l:Array Bool):Array Bool:=R.foldl (λl i=>l.setIfInBounds i true) l
def clo(md:Region.Mode)(ops:Array Oper):List Nat->List Nat->List Nat
 | [],c=>c
 | r::rs,c=>clo md ops rs (if c.contains r then Zbd md ops r++c else c)
def Zcd:List Nat->Bool
 | []=>true
 | x::l=>!l.contains x && Zcd l
def Zal:List Nat->Act->(Nat->Value)->Act
 | [],a,_=>a
 | d::ds,a,ν=>Zal ds (a.put (some d) (ν d)) ν
def upd(ν:Nat->Value)(d:Nat)(v:Value):Nat->Value:=λk=>if k=d then v else ν k
theorem Zzq{a:Act}{d e:Nat}{u v:Value}(h:d≠e):(a.put (some d) u).put (some e) v=(a.put (some e) v).put (some d) u:=by
 simp only[Act.put];rw[QG _ _ h]
theorem Zw6{ds:List Nat}{a:Act}{ν:Nat->Value}{d:Nat}{v:Value}(h:d ∉ ds):Zal ds (a.put (some d) v) ν=(Zal ds a ν).put (some d) v:=by
 induction ds generalizing a with
 | nil=>rfl
 | cons e ds ih =>
  have h1:d≠e:=λh'=>h (h'▸Qc ..);show Zal ds ((a.put (some d) v).put (some e) (ν e)) ν=_;rw[Zzq h1,ih (λh'=>h (Qa _ h'))];rfl
theorem Zn1{ds:List Nat}{a:Act}{ν:Nat->Value}{d:Nat}{v:Value}(h:d ∉ ds):Zal ds a (upd ν d v)=Zal ds a ν:=by
 induction ds generalizing a with
 | nil=>rfl
 | cons e ds ih =>
  have h1:e≠d:=λh'=>h (h'▸Qc ..);show Zal ds (a.put (some e) (upd ν d v e)) (upd ν d v)=Zal ds (a.put (some e) (ν e)) ν;rw[ih (λh'=>h (Qa _ h'))];simp only[upd,Gw h1]
theorem put_put{a:Act}{d:Nat}{u v:Value}:(a.put (some d) u).put (some d) v=a.put (some d) v:=by
 simp only[Act.put];rw[Array.setIfInBounds_setIfInBounds]
theorem Zb9{x:Nat}{l:List Nat}(h:Zcd (x::l)=true):x ∉ l/\Zcd l=true:=by
 simp only[Zcd,Qh,Qq]at h;exact⟨λhx=>by rw[List.contains_iff_mem.2 hx]at h;exact absurd h.1 Gh,h.2⟩
theorem Zlc{ds:List Nat}{a:Act}{ν:Nat->Value}{d:Nat}{v:Value}(h:d ∈ ds)(hn:Zcd ds=true):(Zal ds a ν).put (some d) v=Zal ds a (upd ν d v):=by
 induction ds generalizing a with
 | nil=>cases h
 | cons e ds ih =>
  obtain⟨h1,h2⟩:=Zb9 hn;show (Zal ds (a.put (some e) (ν e)) ν).put (some d) v=Zal ds (a.put (some e) (upd ν d v e)) (upd ν d v);by_cases hd:d=e
  ·subst hd
   rw[<- Zw6 h1,put_put,Zn1 h1];simp only[upd,if_true]
  rcases List.mem_cons.1 h with h'|h';exact absurd h' hd;rw[ih h' h2];simp only[upd,Gw (Qv hd)]
theorem Ztu{ds:List Nat}{a:Act}:Zal ds a (λd=>a.tmps.getD d undef)=a:=by
 induction ds with
 | nil=>rfl
 | cons d ds ih =>
  show Zal ds (a.put (some d) (a.tmps.getD d undef)) _=a
  have:a.put (some d) (a.tmps.getD d undef)=a:=by
   cases a with
   | mk t df =>
    simp only[Act.put];congr 1;rcases Qx d t.size with h|h;exact Z1c (by rw[Qb,Ql h];rfl);exact Array.setIfInBounds_eq_of_size_le h
  rw[this];exact ih
theorem Zcl(R:List Nat)(l:Array Bool)(k:Nat):(Zbv R l).getD k true=if k ∈ R then true else l.getD k true:=by
 unfold Zbv
 induction R generalizing l with
 | nil=>simp
 | cons r R ih =>
  rw[Yp,ih];by_cases h1:k ∈ R;rw[Gx h1,Gx (Qa _ h1)];rw[Gw h1];by_cases h2:k=r
  ·subst h2
   rw[Gx (Qc ..)];rw[Qb,Qy]
   split
   ·split <;> rfl
   rename_i h;exact absurd rfl h
  rw[Gw (λh=>by rcases List.mem_cons.1 h with h|h;exact h2 h;exact h1 h),Go.getD_set_ne true (Qv h2)]
theorem Zgx(R:List Nat)(l:Array Bool):(Zbv R l).size=l.size:=by
 unfold Zbv
 induction R generalizing l with
 | nil=>rfl
 | cons r R ih=>rw[Yp,ih];simp
theorem Zt4{l m:Array Bool}(hs:l.size=m.size)(h:∀ k,l.getD k true=m.getD k true):l=m:=by
 apply Array.ext hs;intro i h1 h2;have:=h i;rw[Qb,Qb,Ql h1,Ql h2]at this;exact this
section
variable{P:Program}{ops:Array Oper}{Q:Exit->Act->World->Prop}{md:Region.Mode}{L:List Nat}{S:World->Prop}
theorem Zto{l:Array Bool}{R:List Nat}(hd:∀ r ∈ R,l.getD r false=true->∀ p ∈ Zbd md ops r,l.getD p false=true) :
    ∀ (rs:List Nat) (c:List Nat),(∀ r ∈ rs,r ∈ R)->(∀ x ∈ c,l.getD x false=true)->∀ x ∈ clo md ops rs c,l.getD x false=true
 | [],c,_,hc,x,hx=>hc x hx
 | r::rs,c,hr,hc,x,hx=>by
  refine Zto hd rs _ (λy hy=>hr y (Qa _ hy)) (λy hy=>?_) x hx
  split at hy
  ·rename_i h1
   rcases List.mem_append.1 hy with h2|h2;exact hd r (hr r (Qc ..)) (hc r (List.contains_iff_mem.1 h1)) y h2;exact hc y h2
  exact hc y hy
theorem Zev{l:Array Bool}{k:Nat}(h:l.getD k false=true):l.getD k true=true:=by
 rw[Qb]at h ⊢;cases hk:l[k]? with
 | none=>rfl
 | some b=>rw[hk]at h;exact h
theorem Zay{l:Array Bool}{k j:Nat}(h:l.getD k false=true):(l.setIfInBounds j true).getD k false=true:=by
 by_cases hkj:j=k
 ·subst hkj
  rw[Qb,Qu];rw[Qb]at h
  split
  rfl;rename_i h1;rw[Qw Gk]at h;cases h
 rw[Go.getD_set_ne false hkj];exact h
theorem Zmm{i:Nat}{l:Array Bool}(h:i ∈ Region.ready md ops l):l.getD i true=false/\i<ops.size/\∀ p ∈ Zbd md ops i,l.getD p false=true:=by
 obtain⟨h1,o,ho,h2⟩:=mem_ready.1 h;refine⟨h1,(Array.getElem?_eq_some_iff.1 ho).1,λp hp=>?_⟩;unfold Zbd at hp;rw[ho]at hp;obtain⟨e,he,rfl⟩:=List.mem_map.1 hp;rw[Yq]at he;exact h2 e (by simpa using he.1) he.2
theorem Zhx{i:Nat}{l:Array Bool}(h1:l.getD i true=false){o:Oper}(ho:ops[i]?=some o)(h:∀ p ∈ Zbd md ops i,l.getD p false=true):i ∈ Region.ready md ops l:=by
 refine mem_ready.2 ⟨h1,o,ho,λe he hb=>h _ ?_⟩;unfold Zbd;rw[ho];exact List.mem_map.2 ⟨e,List.mem_filter.2 ⟨by simpa using he,hb⟩,rfl⟩
def left(R:List Nat)(l:Array Bool):Nat:=(R.filter λr=>!l.getD r true).length
theorem Zmn{f:Nat->Nat}:∀ {R:List Nat},Zcd (R.map f)=true->Zcd R=true
 | [],_=>rfl
 | r::R,h=>by
  obtain⟨h1,h2⟩:=Zb9 (x:=f r) (l:=R.map f) h;simp only[Zcd,Qh,Qq];refine⟨?_,Zmn h2⟩;cases hc:R.contains r with
  | false=>rfl
  | true=>exact absurd (List.mem_map.2 ⟨r,List.contains_iff_mem.1 hc,rfl⟩) h1
theorem Zf2{f:Nat->Nat}:∀ {R:List Nat},Zcd (R.map f)=true->∀ {r i:Nat},r ∈ R->i ∈ R->r≠i->f r≠f i
 | [],_,_,_,h,_,_=>by cases h
 | x::R,h,r,i,hr,hi,hne=>by
  obtain⟨h1,h2⟩:=Zb9 (x:=f x) (l:=R.map f) h;rcases List.mem_cons.1 hr with u|u
  ·rcases List.mem_cons.1 hi with o|o
   exact absurd (u.trans o.symm) hne;exact λe=>h1 (List.mem_map.2 ⟨i,o,by rw[<- e,u]⟩)
  rcases List.mem_cons.1 hi with o|o;exact λe=>h1 (List.mem_map.2 ⟨r,u,by rw[e,o]⟩);exact Zf2 h2 u o hne
theorem Zxe{R:List Nat}{l:Array Bool}{i:Nat}(hi:i ∉ R):left R (l.setIfInBounds i true)=left R l:=by
 unfold left;congr 1;apply List.filter_congr;intro r hr;rw[Go.getD_set_ne true (λe:i=r=>hi (e▸hr))]
theorem Zmg{R:List Nat}{l:Array Bool}{i:Nat}(hn:Zcd R=true)(hi:i ∈ R)(h:l.getD i true=false):left R (l.setIfInBounds i true)+1=left R l:=by
 have f:i<l.size:=by
  rcases Qx i l.size with h'|h';exact h';rw[Qb,Qw h']at h;cases h
 have e:(l.setIfInBounds i true).getD i true=true:=by
  rw[Qb,Qu,Gx f];rfl
 induction R with
 | nil=>cases hi
 | cons r R ih =>
  obtain⟨n1,n2⟩:=Zb9 hn;by_cases hr:i=r
  ·subst hr
   have:=Zxe (l:=l) n1;unfold left at this ⊢;rw[QI (by simp[e]),QJ (by simp[h]),this];rfl
  have o:i ∈ R:=by
    rcases List.mem_cons.1 hi with h'|h';exact absurd h' hr;exact h'
  have:=ih n2 o;unfold left at this ⊢;by_cases hb:l.getD r true=true;rw[QI (by rw[Go.getD_set_ne true hr];simp[hb]),QI (by simp[hb])];exact this;rw[QJ (by rw[Go.getD_set_ne true hr];simpa using hb),QJ (by simpa using hb),QA,QA,this]
theorem Zs8(R:List (Nat × Nat))(h:R.all (λp=>Zbn ops p.1 == p.2)=true):(R.map (·.1)).map (Zbn ops)=R.map (·.2):=by
 rw[List.map_map];apply List.map_congr_left;intro p hp;rw[Qm]at h;simpa using h p hp
end
section
variable{P:Program}{ops:Array Oper}{Q:Exit->Act->World->Prop}{md:Region.Mode}{L:List Nat}{S:World->Prop}
theorem Zkn{i:Nat}{oi:Oper}{v:Value}(hi:ops[i]?=some oi)(hsel:∀ (j:Nat) (o:Oper) cs b,ops[j]?=some o->o.op ≠ .select cs b)
    (hQ:∀ c a w,Q (.panic c) (a.put oi.dst v) w->Q (.panic c) a w) (hiL:L.contains i=false) :
    ∀ (fuel:Nat) (listed:Array Bool) (a:Act) (w:World),
     (∀ j oj,ops[j]?=some oj->j≠i->listed.getD j true=false->(∀ e ∈ oj.after,Region.binds md e=true->e.on≠i)->oi.apart ops oj=true) ->
     i ∈ Region.ready md ops listed->YieldsIf P ops (λ_=>True) oi v a->(Zcy L listed=true->S w) ->
     Zaa P md ops Q L S fuel (listed.setIfInBounds i true) (a.put oi.dst v) w->Zaa P md ops Q L S (fuel+1) listed a w:=by
 have f:i ∉ L:=λh=>by
  rw[List.contains_iff_mem.2 h]at hiL;cases hiL
 intro fuel
 induction fuel with
 | zero =>
  intro listed a w _ hr hy hS H;refine⟨λh=>(by rw[h]at hr;cases hr),λj hj=>?_⟩;by_cases hji:j=i;subst hji;exact hy.wpOp hi trivial ⟨λh=>hS (by rwa [Zdg f]at h),H⟩;have:=ready_mono hj hji;rw[H.1]at this;cases this
 | succ fuel ih =>
  intro listed a w bK hr hy hS H;refine⟨λh=>(by rw[h]at hr;cases hr),λj hj=>?_⟩;by_cases hji:j=i;subst hji;exact hy.wpOp hi trivial ⟨λh=>hS (by rwa [Zdg f]at h),H⟩;have h1:=H.2 j (ready_mono hj hji);obtain⟨de,oj,y,au⟩:=mem_ready.1 hj
  have I:∀ e ∈ oj.after,Region.binds md e=true->e.on≠i:=λe he hb heq=>by
   exact FQ
  have h2:=wpOp_putIf y (bK j oj y hji de I) (λcs b=>hsel i oi cs b hi) (λcs b=>hsel j oj cs b y) hQ hy h1
  have u:∀ k ok,ops[k]?=some ok->k≠i->(listed.setIfInBounds j true).getD k true=false ->
      (∀ e ∈ ok.after,Region.binds md e=true->e.on≠i)->oi.apart ops ok=true:=λk ok hk hki hun hno=>by
   exact Ih
  refine wpOp_mono (λa' w' h3=>?_) h2
  have C:Zcy L (listed.setIfInBounds j true)=true->S w':=λh=>h3.2.1 (by
   rw[QG _ _ (Qv hji),Zdg f];exact h)
  refine⟨C,ih (listed.setIfInBounds j true) a' w' u (ready_mono hr (Qv hji)) h3.1 C ?_⟩;rw[QG _ _ hji];exact h3.2.2
theorem Zk{i:Nat}{oi:Oper}{v:Value}{fuel:Nat}{listed:Array Bool}{a:Act}{w:World}(hi:ops[i]?=some oi)
    (hs:Region.noSelect ops=true) (hf:Region.free md ops listed i=true) (hr:(Region.ready md ops listed).contains i=true) (hL:L.contains i=false)
    (hy:YieldsIf P ops (λ_=>True) oi v a) (hS:Zcy L listed=true->S w)
    (h:Zaa P md ops (OnlyNormal Q) L S fuel (listed.setIfInBounds i true) (a.put oi.dst v) w):Zaa P md ops (OnlyNormal Q) L S (fuel+1) listed a w:=
 Zkn hi (Region.noSelect_spec hs) (λ_ _ _ h=>(h:False).elim) hL fuel listed a w (Region.free_spec hi hf) (by simpa using hr) hy hS h
end
def Zg0(md:Region.Mode)(ops:Array Oper)(L:List Nat):List Nat->Array Bool->Bool
 | [],_=>true
 | i::is,l=>Region.free md ops l i && (Region.ready md ops l).contains i && !L.contains i && Zg0 md ops L is (l.setIfInBounds i true)
section
variable{P:Program}{ops:Array Oper}{Q:Exit->Act->World->Prop}{md:Region.Mode}{L:List Nat}{S:World->Prop}
theorem Zf3(hs:Region.noSelect ops=true){w:World}(hS:S w):∀ (is:List Nat) (F:Nat) (listed:Array Bool) (a:Act),Zg0 md ops L is listed=true->Zcv P ops (λ_=>True) is a (λa'=>Zaa P md ops (OnlyNormal Q) L S F (Zd5 is listed) a' w)->Zaa P md ops (OnlyNormal Q) L S (F+is.length) listed a w
 | [],F,l,a,_,h=>h
 | i::is,F,l,a,hc,h=>by
  obtain⟨oi,v,ho,hy,h2⟩:=h;simp only[Zg0,Qh,Qq]at hc;exact Zk ho hs hc.1.1.1 hc.1.1.2 hc.1.2 hy (λ_=>hS) (Zf3 hs hS is F _ _ hc.2 h2)
theorem Zgm{F:Nat}{listed:Array Bool}{a:Act}{w:World}(k:Nat)(is:List Nat)(hk:is.length=k)(hc:(Region.noSelect ops && Zg0 md ops L is listed)=true)(hS:S w)
    (h:Zcv P ops (λ_=>True) is a (λa'=>Zaa P md ops (OnlyNormal Q) L S F (Zd5 is listed) a' w)):Zaa P md ops (OnlyNormal Q) L S (F+k) listed a w:=by
 rw[Qh]at hc;subst hk;exact Zf3 hc.1 hS is F listed a hc.2 h
end
def Zbj(R:List Nat)(att:Nat->List Nat):List Nat:=R.flatMap λi=>i::att i
def Ziw(md:Region.Mode)(ops:Array Oper)(l:Array Bool)(i:Nat):List Nat->List Nat->Bool
 | [],_=>true
 | u::us,done=>(match ops[u]? with|some o=>o.dst.isSome|none=>false) && (Zbd md ops u).contains i && !l.getD u true && (Zbd md ops u).all (λp=>p == i || done.contains p || l.getD p false || (Zbd md ops i).contains p) &&
     ((Qt ops.size).all λj=>j == u || (j == i || done.contains j || l.getD j false || (Zbd md ops i).contains j) || (Zbd md ops j).contains u || (match ops[u]?,ops[j]? with|some ou,some oj=>ou.apart ops oj|_,_=>true)) && Ziw md ops l i us (u::done)
def Zv6(md:Region.Mode)(ops:Array Oper)(att:Nat->List Nat):List Nat->Array Bool->Bool
 | [],_=>true
 | r::rs,l=>!l.getD r true && (match ops[r]? with|some o=>o.dst.isSome|none=>false) && (Zbd md ops r).all (λp=>l.getD p false) && Zv6 md ops att rs (Zbv (r::att r) l)
def Z0s(md:Region.Mode)(ops:Array Oper)(R F:List Nat)(l:Array Bool):Bool:=
 (Qt ops.size).all λk=>F.contains k || l.getD k true || (Zbd md ops k).any (λp=>!F.contains p && !l.getD p false) || (R.all λr=>(clo md ops F.reverse (Zbd md ops k)).contains r)
def Zmc(md:Region.Mode)(ops:Array Oper)(R:List Nat)(att:Nat->List Nat)(l:Array Bool):Bool:=
 Zv6 md ops att R l && Z0s md ops R (Zbj R att) l && Zcd ((Zbj R att).map (Zbn ops)) && decide (l.size=ops.size) && R.all (λi=>Ziw md ops l i (att i) []) && Region.noSelect ops
section
variable{P:Program}{ops:Array Oper}{Q:Exit->Act->World->Prop}{md:Region.Mode}{L:List Nat}{S:World->Prop}
def Zsc(P:Program)(ops:Array Oper)(Φ:Nat->Value->World->Prop)(w:World):List Nat->Act->Prop
 | [],_=>True
 | u::us,a=>∃ o v,ops[u]?=some o/\YieldsIf P ops (λ_=>True) o v a/\Φ u v w/\Zsc P ops Φ w us (a.put o.dst v)
theorem Zhp{l:Array Bool}{i:Nat}(h:i<l.size):(l.setIfInBounds i true).getD i false=true:=by
 rw[Qb,Qu,Gx h];rfl
theorem Zcg{us:List Nat}{l:Array Bool}{k:Nat}(h:l.getD k false=true):(Zbv us l).getD k false=true:=by
 induction us generalizing l with
 | nil=>exact h
 | cons u us ih=>exact ih (l:=l.setIfInBounds u true) (Zay h)
theorem Zm9{us:List Nat}{l:Array Bool}{k:Nat}(hk:k ∈ us)(h:k<l.size):(Zbv us l).getD k false=true:=by
 induction us generalizing l with
 | nil=>cases hk
 | cons u us ih =>
  rcases List.mem_cons.1 hk with rfl|hk;exact Zcg (us:=us) (Zhp h);exact ih (l:=l.setIfInBounds u true) hk (by simp;exact h)
theorem Zun{Φ:Nat->Value->World->Prop}{l0:Array Bool}{i:Nat}{R:List Nat}{a0:Act}{w:World}{F:Nat}(hns:Region.noSelect ops=true)(hnd:Zcd (R.map (Zbn ops))=true)(hiR:i ∈ R) :
    ∀ (us done:List Nat) (l:Array Bool) (ν:Nat->Value),Ziw md ops l0 i us done=true->(∀ u ∈ us,u ∈ R)->(∀ u ∈ us,u ∉ L)->(∀ u ∈ us,l.getD u true=false)->l.size=ops.size->Zcd us=true ->
     (∀ p,l0.getD p false=true->l.getD p false=true)->l.getD i false=true->(∀ p ∈ Zbd md ops i,l.getD p false=true)->(∀ u ∈ done,l.getD u false=true)->S w ->
     Zsc P ops Φ w us (Zal (R.map (Zbn ops)) a0 ν) ->
     (∀ ν',(∀ k,(∀ u ∈ us,Zbn ops u≠k)->ν' k=ν k)->(∀ u ∈ us,Φ u (ν' (Zbn ops u)) w)->Zaa P md ops (OnlyNormal Q) L S F (Zbv us l) (Zal (R.map (Zbn ops)) a0 ν') w) ->
     Zaa P md ops (OnlyNormal Q) L S (us.length+F) l (Zal (R.map (Zbn ops)) a0 ν) w:=by
 intro us
 induction us with
 | nil =>
  intro done l ν _ _ _ _ _ _ _ _ _ _ _ _ h;rw[show ([]:List Nat).length+F=F by simp];exact h ν (λ_ _=>rfl) (λu hu=>by cases hu)
 | cons u us ih =>
  intro done l ν hat hR hL hun hsz hndu hl0 hi hp hdone hS htr h;simp only[Ziw,Qh,Qm]at hat;obtain⟨⟨⟨⟨⟨h1,h2⟩,h3⟩,h4⟩,h5⟩,h6⟩:=hat;obtain⟨o,v,ho,hy,hΦ,C⟩:=htr;obtain⟨n1,n2⟩:=Zb9 hndu;have U:u<ops.size:=(Array.getElem?_eq_some_iff.1 ho).1;have T:=hun u (Qc ..)
  have f:u ∈ Region.ready md ops l:=Zhx T ho (λp hp2=>by
   have h7:=h4 p hp2;simp only[QN,beq_iff_eq]at h7;rcases h7 with ((h7|h7)|h7)|h7;rw[h7];exact hi;exact hdone p (List.contains_iff_mem.1 h7);exact hl0 p h7;exact hp p (List.contains_iff_mem.1 h7))
  have I:o.dst=some (Zbn ops u):=by
   rw[ho]at h1;obtain⟨d,hd⟩:=Option.isSome_iff_exists.1 h1;unfold Zbn;rw[ho];simp only[hd,Qk]
  have J:Zbn ops u ∈ R.map (Zbn ops):=List.mem_map.2 ⟨u,hR u (Qc ..),rfl⟩;rw[QA,Yg]
  refine Zkn ho (Region.noSelect_spec hns) (λ_ _ _ h=>(h:False).elim) (by
   cases hc:L.contains u with
   | false=>rfl
   | true=>exact absurd (List.contains_iff_mem.1 hc) (hL u (Qc ..))) _ l _ w (λj oj hoj hju hjl hnw=>?_) f hy (λ_=>hS) ?_
  ·have h7:=h5 j (List.mem_range.2 (Array.getElem?_eq_some_iff.1 hoj).1)
   simp only[QN,beq_iff_eq]at h7;rcases h7 with ((h7|h7)|h7)|h7;exact absurd h7 hju
   ·exfalso
    have h8:l.getD j false=true:=by
     rcases h7 with ((h7|h7)|h7)|h7;rw[h7];exact hi;exact hdone j (List.contains_iff_mem.1 h7);exact hl0 j h7;exact hp j (List.contains_iff_mem.1 h7)
    rw[Zev h8]at hjl;cases hjl
   ·exfalso
    have h8:=List.contains_iff_mem.1 h7;unfold Zbd at h8;rw[hoj]at h8;obtain⟨e,he,O⟩:=List.mem_map.1 h8;rw[Yq]at he;exact hnw e (by simpa using he.1) he.2 O
   rw[ho,hoj]at h7;exact h7
  rw[I,Zlc J hnd];refine ih (u::done) (l.setIfInBounds u true) (upd ν (Zbn ops u) v) h6 (λx hx=>hR x (Qa _ hx)) (λx hx=>hL x (Qa _ hx)) (λx hx=>?_) (by simp;exact hsz) n2 (λp hp2=>Zay (hl0 p hp2)) (Zay hi) (λp hp2=>Zay (hp p hp2)) (λx hx=>?_) hS ?_ (λν' k1 k2=>?_)
  ·rw[Go.getD_set_ne true (λe:u=x=>n1 (e▸hx))]
   exact hun x (Qa _ hx)
  ·rcases List.mem_cons.1 hx with rfl|hx
   exact Zhp Gk;exact Zay (hdone x hx)
  ·rw[I,Zlc J hnd]at C
   exact C
  refine h ν' (λk hk=>?_) (λx hx=>?_)
  ·rw[k1 k (λx hx=>hk x (Qa _ hx))]
   simp only[upd,Gw (Qv (hk u (Qc ..)))]
  rcases List.mem_cons.1 hx with rfl|hx
  ·have h9:∀ y ∈ us,Zbn ops y≠Zbn ops x:=λy hy=>Zf2 hnd (hR y (Qa _ hy)) (hR x (Qc ..)) (λe=>n1 (e▸hy))
   rw[k1 _ h9];simp only[upd,if_true];exact hΦ
  exact k2 x hx
theorem Zng{us:List Nat}{l:Array Bool}{k:Nat}(h:(Zbv us l).getD k false=true):k ∈ us \/ l.getD k false=true:=by
 induction us generalizing l with
 | nil=>exact .inr h
 | cons u us ih =>
  rcases ih (l:=l.setIfInBounds u true) h with h1|h1;exact .inl (Qa _ h1);by_cases hk:u=k;exact .inl (hk▸Qc ..);rw[Go.getD_set_ne false hk]at h1;exact .inr h1
theorem Zhm{us:List Nat}{l:Array Bool}{k:Nat}(h:(Zbv us l).getD k true=false):l.getD k true=false:=by
 rw[Zcl]at h
 split at h
 cases h;exact h
theorem Zjr{att:Nat->List Nat}:∀ (R:List Nat) (l0:Array Bool),Zv6 md ops att R l0=true->(∀ r ∈ R,l0.getD r true=false/\∃ o d,ops[r]?=some o/\o.dst=some d) /\
      ∀ l:Array Bool,l.size=l0.size->(∀ k,l0.getD k false=true->l.getD k false=true)->(∀ r ∈ R,l.getD r true=true->∀ u ∈ att r,l.getD u false=true)->(∃ r ∈ R,l.getD r true=false)->∃ r ∈ R,l.getD r true=false/\∀ p ∈ Zbd md ops r,l.getD p false=true
 | [],_,_=>⟨λr hr=>(by cases hr),λl _ _ _ ⟨r,hr,_⟩=>(by cases hr)⟩
 | r::R,l0,h=>by
  simp only[Zv6,Qh,Qq,Qm]at h;obtain⟨⟨⟨h1,h2⟩,h3⟩,h4⟩:=h;obtain⟨k1,k2⟩:=Zjr R _ h4;refine⟨λx hx=>?_,λl hsz hl hat hu=>?_⟩
  ·rcases List.mem_cons.1 hx with rfl|hx
   ·refine⟨h1,?_⟩
    cases ho:ops[x]? with
    | none=>rw[ho]at h2;cases h2
    | some o =>
     rw[ho]at h2;obtain⟨d,hd⟩:=Option.isSome_iff_exists.1 h2;exact⟨o,d,rfl,hd⟩
   obtain⟨m1,m2⟩:=k1 x hx;exact⟨Zhm m1,m2⟩
  by_cases hr:l.getD r true=false;exact⟨r,Qc ..,hr,λp hp=>hl p (h3 p hp)⟩;have e:l.getD r true=true:=by simpa using hr
  have O:r<l0.size:=by
   rcases Qx r l0.size with h'|h';exact h';rw[Qb,Qw h']at h1;cases h1
  have I:r<l.size:=Gk
  have J:l.getD r false=true:=by
   rw[Qb,Ql I]at e ⊢;exact e
  obtain⟨x,hx,C⟩:=k2 l (by rw[Zgx];exact hsz) (λk hk=>by
   rcases Zng hk with h5|h5
   ·rcases List.mem_cons.1 h5 with rfl|h5
    exact J;exact hat r (Qc ..) e k h5
   ·exact hl k h5) (λy hy=>hat y (Qa _ hy)) (by
   obtain⟨y,hy,f⟩:=hu;rcases List.mem_cons.1 hy with rfl|hy;exact absurd f hr;exact⟨y,hy,f⟩)
  exact⟨x,Qa _ hx,C⟩
theorem Zp1{R:List Nat}(hn:Zcd R=true):∀ (us:List Nat) (l:Array Bool),Zcd us=true->(∀ u ∈ us,u ∈ R)->(∀ u ∈ us,l.getD u true=false)->left R (Zbv us l)+us.length=left R l:=by
 intro us
 induction us with
 | nil=>intro l _ _ _;rfl
 | cons u us ih =>
  intro l h1 h2 h3;obtain⟨n1,n2⟩:=Zb9 h1;have h4:=Zmg hn (h2 u (Qc ..)) (h3 u (Qc ..))
  have h5:=ih (l.setIfInBounds u true) n2 (λx hx=>h2 x (Qa _ hx)) (λx hx=>by
   rw[Go.getD_set_ne true (λe:u=x=>n1 (e▸hx))];exact h3 x (Qa _ hx))
  show left R (Zbv us (l.setIfInBounds u true))+(us.length+1)=_;omega
theorem Zeu:∀ {a b:List Nat},Zcd (a++b)=true->Zcd b=true
 | [],_,h=>h
 | _::a,_,h=>Zeu (a:=a) (Zb9 h).2
theorem Zfc:∀ {a b:List Nat},Zcd (a++b)=true->Zcd a=true
 | [],_,_=>rfl
 | x::a,b,h=>by
  obtain⟨h1,h2⟩:=Zb9 (x:=x) (l:=a++b) h;simp only[Zcd,Qh,Qq];refine⟨?_,Zfc h2⟩;cases hc:a.contains x with
  | false=>rfl
  | true=>exact absurd (List.mem_append_left _ (List.contains_iff_mem.1 hc)) h1
theorem Zln:∀ {a b:List Nat},Zcd (a++b)=true->∀ x,x ∈ a->x ∉ b
 | [],_,_,x,hx=>by cases hx
 | y::a,b,h,x,hx=>by
  obtain⟨h1,h2⟩:=Zb9 (x:=y) (l:=a++b) h;rcases List.mem_cons.1 hx with e|e;intro hb;exact h1 (List.mem_append_right _ (e▸hb));exact Zln h2 x e
theorem Zs7{att:Nat->List Nat}:∀ {R:List Nat},Zcd (Zbj R att)=true->∀ r ∈ R,Zcd (r::att r)=true/\∀ r' ∈ R,r'≠r->∀ x ∈ r::att r,x ∉ r'::att r'
 | [],_,r,hr=>by cases hr
 | y::R,h,r,hr=>by
  have e:Zbj (y::R) att=(y::att y)++Zbj R att:=rfl;rw[e]at h;have h1:=Zfc h;have h2:=Zeu h;have h3:=Zln h;have f:∀ z ∈ R,∀ x ∈ z::att z,x ∈ Zbj R att:=λz hz x hx=>List.mem_flatMap.2 ⟨z,hz,hx⟩;by_cases hry:r=y
  ·subst hry
   refine⟨h1,λr' hr' hne x hx hx2=>?_⟩;rcases List.mem_cons.1 hr' with h4|h4;exact hne h4;exact h3 x hx (f r' h4 x hx2)
  have o:r ∈ R:=by
    rcases List.mem_cons.1 hr with h4|h4;exact absurd h4 hry;exact h4
  obtain⟨k1,k2⟩:=Zs7 h2 r o;refine⟨k1,λr' hr' hne x hx hx2=>?_⟩;by_cases hr'y:r'=y
  ·subst hr'y
   exact h3 x hx2 (f r o x hx)
  rcases List.mem_cons.1 hr' with h4|h4;exact hr'y h4;exact k2 r' h4 hne x hx hx2
theorem Z0w(R:List Nat)(att:Nat->List Nat)(D:List Nat)(hDR:∀ i ∈ D,i ∈ R)(Φ:Nat->Value->World->Prop){l0:Array Bool}{a0:Act}{w0:World}(hok:Zmc md ops R att l0=true)(hL:∀ u ∈ Zbj R att,u ∉ L)
    (hst:∀ i ∈ Zbj R att,∀ v w w',Below w.heap.size w w'->Φ i v w->Φ i v w') (hS:∀ w',Below w0.heap.size w0 w'->S w') {F:Nat}
    (hop:∀ i ∈ R,∀ (ν:Nat->Value) (w:World),Below w0.heap.size w0 w->(∀ j ∈ Zbj R att,j ∈ Zbd md ops i->Φ j (ν (Zbn ops j)) w) ->
     wpOp P ops (OnlyNormal Q) i (λa' w'=>∃ v,a'=(Zal ((Zbj R att).map (Zbn ops)) a0 ν).put (some (Zbn ops i)) v/\Φ i v w'/\Below w.heap.size w w'/\Zsc P ops Φ w' (att i) a'/\(i ∈ D->∀ j ∈ D,∀ u,Φ j u w->v≠u)) (Zal ((Zbj R att).map (Zbn ops)) a0 ν) w)
    (hfin:∀ (ν:Nat->Value) (w:World),Below w0.heap.size w0 w->(∀ i ∈ Zbj R att,Φ i (ν (Zbn ops i)) w)->(∀ i ∈ D,∀ j ∈ D,i≠j->ν (Zbn ops i)≠ν (Zbn ops j))->Zaa P md ops (OnlyNormal Q) L S F (Zbv (Zbj R att) l0) (Zal ((Zbj R att).map (Zbn ops)) a0 ν) w) :
    ∀ (n:Nat) (l:Array Bool) (ν:Nat->Value) (w:World),n=left (Zbj R att) l->l.size=l0.size->(∀ k,k ∉ Zbj R att->l.getD k true=l0.getD k true)->(∀ k,l0.getD k false=true->l.getD k false=true) ->
     (∀ r ∈ Zbj R att,l.getD r false=true->∀ p ∈ Zbd md ops r,l.getD p false=true) ->
     (∀ r ∈ R,∀ u ∈ att r,(l.getD r true=true->l.getD u false=true)/\(l.getD r true=false->l.getD u true=false))->Below w0.heap.size w0 w->(∀ r ∈ Zbj R att,l.getD r true=true->Φ r (ν (Zbn ops r)) w)->(∀ i ∈ D,∀ j ∈ D,i≠j->l.getD i true=true->l.getD j true=true->ν (Zbn ops i)≠ν (Zbn ops j)) ->
     Zaa P md ops (OnlyNormal Q) L S (n+F) l (Zal ((Zbj R att).map (Zbn ops)) a0 ν) w:=by
 simp only[Zmc,Qh,decide_eq_true_eq]at hok;obtain⟨⟨⟨⟨⟨c5,b3⟩,a4⟩,d3⟩,a1⟩,d0⟩:=hok;rw[Qm]at a1;obtain⟨t1,t2⟩:=Zjr R l0 c5;have a2:=Zmn a4;have I:∀ r ∈ R,r ∈ Zbj R att:=λr hr=>List.mem_flatMap.2 ⟨r,hr,Qc ..⟩;have f:∀ r ∈ R,∀ u ∈ att r,u ∈ Zbj R att:=λr hr u hu=>List.mem_flatMap.2 ⟨r,hr,Qa _ hu⟩
 have a6:∀ r ∈ R,∀ u ∈ att r,r ∈ Zbd md ops u/\(∃ o,ops[u]?=some o):=λr hr=>by
  have:∀ (us done:List Nat),Ziw md ops l0 r us done=true->∀ u ∈ us,r ∈ Zbd md ops u/\(∃ o,ops[u]?=some o):=by
   intro us
   induction us with
   | nil=>intro _ _ u hu;cases hu
   | cons x us ih =>
    intro done h u hu;simp only[Ziw,Qh]at h;rcases List.mem_cons.1 hu with rfl|hu
    ·refine⟨List.contains_iff_mem.1 h.1.1.1.1.2,?_⟩
     cases ho:ops[u]? with
     | none=>have:=h.1.1.1.1.1;rw[ho]at this;cases this
     | some o=>exact⟨o,rfl⟩
    exact ih _ h.2 u hu
  exact this (att r) [] (a1 r hr)
 intro n
 induction n using Nat.strongRecOn with
 | _ n ih =>
  intro l ν w hn hsz hK hM hD hA hb hΦ hNE
  have V:∀ r ∈ Zbj R att,r<l.size:=λx hx=>by
   obtain⟨r,hr,U⟩:=List.mem_flatMap.1 hx;rcases List.mem_cons.1 U with rfl|U
   ·obtain⟨-,o,d,ho,-⟩:=t1 x hr
    have:=(Array.getElem?_eq_some_iff.1 ho).1;omega
   obtain⟨-,o,ho⟩:=a6 r hr x U;have:=(Array.getElem?_eq_some_iff.1 ho).1;omega
  have d4:∀ k,k<l.size->l.getD k true=true->l.getD k false=true:=λk hk h=>by
   rw[Qb,Ql hk]at h ⊢;exact h
  by_cases hex:∃ r ∈ R,l.getD r true=false
  ·obtain⟨r,hr,b5,c3⟩:=t2 l hsz hM (λr hr h u hu=>(hA r hr u hu).1 h) hex
   obtain⟨-,o,d,ho,-⟩:=t1 r hr;have a3:=Zhx (md:=md) b5 ho c3
   obtain⟨m,rfl⟩:∃ m,n=m+1:=by
    have:=Zmg a2 (I r hr) b5;exact⟨left (Zbj R att) (l.setIfInBounds r true),by omega⟩
   rw[Yg];refine⟨λh0=>(by rw[h0]at a3;cases a3),λi hi=>?_⟩;obtain⟨a7,c6,Y⟩:=Zmm hi
   have T:i ∈ Zbj R att:=by
    apply Classical.byContradiction;intro b9;unfold Z0s at b3;rw[Qm]at b3;have h1:=b3 i (List.mem_range.2 c6);simp only[QN,Ym,Qm,Qh,Qq]at h1;rcases h1 with ((h1|h1)|⟨p,hp,h2,h3⟩)|h1;exact b9 (List.contains_iff_mem.1 h1);rw[hK i b9,h1]at a7;cases a7
    ·have c8:p ∉ Zbj R att:=λh=>by rw[List.contains_iff_mem.2 h]at h2;cases h2
     have h4:=Y p hp;have h5:=Zev h4;rw[hK p c8]at h5
     have d7:p<l.size:=by
      rcases Qx p l.size with h'|h';exact h';rw[Qb,Qw h']at h4;cases h4
     rw[Qb,Ql Gk]at h5 h3;simp only[Qk]at h5 h3;rw[h5]at h3;cases h3
    have h2:=Zto (md:=md) (ops:=ops) (l:=l) (R:=Zbj R att) hD (Zbj R att).reverse (Zbd md ops i) (λr hr=>List.mem_reverse.1 hr) Y;have h3:=Zev (h2 r (List.contains_iff_mem.1 (h1 r hr)));rw[b5]at h3;cases h3
   have J:i ∈ R:=by
    obtain⟨r',O,hx⟩:=List.mem_flatMap.1 T;rcases List.mem_cons.1 hx with rfl|hx;exact O;exfalso;have h1:=Zev (Y r' (a6 r' O i hx).1);have h2:=Zev ((hA r' O i hx).1 h1);rw[a7]at h2;cases h2
   have c7:Zbn ops i ∈ (Zbj R att).map (Zbn ops):=List.mem_map.2 ⟨i,T,rfl⟩;obtain⟨c1,b1⟩:=Zs7 a2 i J;obtain⟨ni,nus⟩:=Zb9 c1;refine wpOp_mono (λa' w' h=>?_) (hop i J ν w hb λj hj hp=>hΦ j hj (Zev (Y j hp)));obtain⟨v,rfl,hv,c2,b8,b7⟩:=h;have b6:=Gs hb c2;refine⟨λ_=>hS _ b6,?_⟩;rw[Zlc c7 a4]at b8 ⊢;have a9:(l.setIfInBounds i true).getD i false=true:=Zhp (V i T)
   have b2:∀ u ∈ att i,(l.setIfInBounds i true).getD u true=false:=λu hu=>by
    rw[Go.getD_set_ne true (λe:i=u=>ni (e▸hu))];exact(hA i J u hu).2 a7
   have d5:=Zmg a2 T a7;have d6:=Zp1 a2 (att i) (l.setIfInBounds i true) nus (f i J) b2;have hm:m=(att i).length+left (Zbj R att) (Zbv (att i) (l.setIfInBounds i true)):=Gk;rw[hm,Nat.add_assoc];refine Zun (R:=Zbj R att) d0 a4 T (att i) [] (l.setIfInBounds i true) _ (a1 i J) (f i J) (λu hu=>hL u (f i J u hu)) b2 Gg nus (λp hp=>Zay (hM p hp)) a9 (λp hp=>Zay (Y p hp)) (λu hu=>by cases hu) (hS _ b6) b8 (λν' k1 k2=>?_)
   have hνi:ν' (Zbn ops i)=v:=by
    rw[k1 _ (λu hu=>Zf2 a4 (f i J u hu) T (λe=>ni (e▸hu)))];simp only[upd,if_true]
   have hνo:∀ x ∈ Zbj R att,x≠i->x ∉ att i->ν' (Zbn ops x)=ν (Zbn ops x):=λx hx h1 h2=>by
    rw[k1 _ (λu hu=>Zf2 a4 (f i J u hu) hx (λe=>h2 (e▸hu)))];simp only[upd,Gw (Zf2 a4 hx T h1)]
   refine ih _ Gk (Zbv (att i) (l.setIfInBounds i true)) ν' w' rfl (by rw[Zgx];simp;exact hsz) (λk hk=>?_) (λk hk=>Zcg (Zay (hM k hk))) (λx hx hxt p hp=>?_) (λr' O u hu=>?_) b6 (λx hx hxt=>?_) (λa ha b hb' hab hat hbt=>?_)
   ·rw[Zcl,Gw (λh=>hk (f i J k h)),Go.getD_set_ne true (λe:i=k=>hk (e▸T))]
    exact hK k hk
   ·rcases Zng hxt with h1|h1
    ·-- an operation of the train
     have h2:∀ (us done:List Nat),Ziw md ops l0 i us done=true->(∀ u ∈ done,(Zbv (att i) (l.setIfInBounds i true)).getD u false=true)->(∀ u ∈ us,u ∈ att i)->∀ u ∈ us,∀ p ∈ Zbd md ops u,(Zbv (att i) (l.setIfInBounds i true)).getD p false=true:=by
      intro us
      induction us with
      | nil=>intro _ _ _ _ u hu;cases hu
      | cons y us ihu =>
       intro done h hd C u hu p hp;simp only[Ziw,Qh,Qm]at h;rcases List.mem_cons.1 hu with rfl|hu
       ·have h7:=h.1.1.2 p hp
        simp only[QN,beq_iff_eq]at h7;rcases h7 with ((h7|h7)|h7)|h7;rw[h7];exact Zcg a9;exact hd p (List.contains_iff_mem.1 h7);exact Zcg (Zay (hM p h7));exact Zcg (Zay (Y p (List.contains_iff_mem.1 h7)))
       refine ihu (y::done) h.2 (λz hz=>?_) (λz hz=>C z (Qa _ hz)) u hu p hp;rcases List.mem_cons.1 hz with rfl|hz;exact Zm9 (C z (Qc ..)) (by simp;exact V z (f i J z (C z (Qc ..))));exact hd z hz
     exact h2 (att i) [] (a1 i J) (λu hu=>by cases hu) (λu hu=>hu) x h1 p hp
    by_cases hxi:i=x;subst hxi;exact Zcg (Zay (Y p hp));rw[Go.getD_set_ne false hxi]at h1;exact Zcg (Zay (hD x hx h1 p hp))
   ·by_cases hri:r'=i
    ·subst hri
     refine⟨λ_=>Zm9 hu (by simp;exact V u (f r' O u hu)),λh=>?_⟩;have h1:=Zhm h;rw[Zev a9]at h1;cases h1
    have b4:=b1 r' O hri;have c9:u ∉ att i:=λh=>b4 u (Qa _ h) (Qa _ hu);have c4:i≠u:=λh=>b4 i (Qc ..) (h▸Qa _ hu);have b0:r' ∉ att i:=λh=>b4 r' (Qa _ h) (Qc ..);refine⟨λh=>?_,λh=>?_⟩
    ·rw[Zcl,Gw b0,Go.getD_set_ne true (Qv hri)]at h
     exact Zcg (Zay ((hA r' O u hu).1 h))
    rw[Zcl,Gw b0,Go.getD_set_ne true (Qv hri)]at h;rw[Zcl,Gw c9,Go.getD_set_ne true c4];exact(hA r' O u hu).2 h
   ·by_cases hxi:x=i
    subst hxi;rw[hνi];exact hv;by_cases hxa:x ∈ att i;exact k2 x hxa;rw[hνo x hx hxi hxa];rw[Zcl,Gw hxa,Go.getD_set_ne true (Qv hxi)]at hxt;exact hst x hx _ _ _ c2 (hΦ x hx hxt)
   have c0:∀ x ∈ D,x ∉ att i:=λx hx h=>by
     by_cases hxi:x=i;exact ni (hxi▸h);exact b1 x (hDR x hx) hxi x (Qa _ h) (Qc ..)
   have a8:∀ x ∈ D,x≠i->(Zbv (att i) (l.setIfInBounds i true)).getD x true=true->ν' (Zbn ops x)=ν (Zbn ops x)/\l.getD x true=true:=λx hx hxi h=>by
    rw[Zcl,Gw (c0 x hx),Go.getD_set_ne true (Qv hxi)]at h;exact⟨hνo x (I x (hDR x hx)) hxi (c0 x hx),h⟩
   by_cases hai:a=i
   ·have a5:b≠i:=λh=>hab (hai.trans h.symm)
    obtain⟨e1,e2⟩:=a8 b hb' a5 hbt;rw[hai,hνi,e1];exact b7 (hai▸ha) b hb' _ (hΦ b (I b (hDR b hb')) e2)
   obtain⟨e1,e2⟩:=a8 a ha hai hat;by_cases a5:b=i
   ·rw[a5,hνi,e1]
    exact λh=>b7 (a5▸hb') a ha _ (hΦ a (I a (hDR a ha)) e2) h.symm
   obtain⟨e3,e4⟩:=a8 b hb' a5 hbt;rw[e1,e3];exact hNE a ha b hb' hab e2 e4
  have C:∀ x ∈ Zbj R att,l.getD x true=true:=λx hx=>by
    obtain⟨r,hr,U⟩:=List.mem_flatMap.1 hx
    have h1:l.getD r true=true:=by
     cases h:l.getD r true with
     | true=>rfl
     | false=>exact absurd ⟨r,hr,h⟩ hex
    rcases List.mem_cons.1 U with rfl|U;exact h1;exact Zev ((hA r hr x U).1 h1)
  have h0:left (Zbj R att) l=0:=by
   unfold left;rw[List.length_eq_zero_iff,List.filter_eq_nil_iff];intro r hr;rw[C r hr];simp
  have:l=Zbv (Zbj R att) l0:=by
   refine Zt4 (by rw[Zgx];exact hsz) λk=>?_;rw[Zcl];by_cases hk:k ∈ Zbj R att;rw[Gx hk];exact C k hk;rw[Gw hk];exact hK k hk
  subst this;rw[hn,h0,QW];exact hfin ν w hb (λi hi=>hΦ i hi (C i hi)) (λi hi j hj hij=>hNE i hi j hj hij (C i (I i (hDR i hi))) (C j (I j (hDR j hj))))
theorem Zsq(DP:List (Nat × Nat))(RP:List (Nat × Nat))(att:Nat->List Nat)(FP:List (Nat × Nat))(Φ:Nat->Value->World->Prop)(F:Nat){l0:Array Bool}{a0:Act}{w0:World}
    (hok:(Zmc md ops (RP.map (·.1)) att l0 && (Zbj (RP.map (·.1)) att == FP.map (·.1)) && FP.all (λp=>Zbn ops p.1 == p.2) && RP.all (λp=>Zbn ops p.1 == p.2) && FP.all (λp=>!L.contains p.1) && DP.all (λp=>RP.contains p))=true)
    (hst:∀ p ∈ FP,∀ v w w',Below w.heap.size w w'->Φ p.1 v w->Φ p.1 v w') (hS:∀ w',Below w0.heap.size w0 w'->S w')
    (hop:∀ p ∈ RP,∀ (ν:Nat->Value) (w:World),Below w0.heap.size w0 w->(∀ q ∈ FP,(Zbd md ops p.1).contains q.1=true->Φ q.1 (ν q.2) w) ->
     wpOp P ops (OnlyNormal Q) p.1 (λa' w'=>∃ v,a'=(Zal (FP.map (·.2)) a0 ν).put (some p.2) v/\Φ p.1 v w'/\Below w.heap.size w w'/\Zsc P ops Φ w' (att p.1) a'/\(p ∈ DP->∀ q ∈ DP,∀ u,Φ q.1 u w->v≠u)) (Zal (FP.map (·.2)) a0 ν) w)
    (hfin:∀ (ν:Nat->Value) (w:World),Below w0.heap.size w0 w->(∀ p ∈ FP,Φ p.1 (ν p.2) w)->(∀ p ∈ DP,∀ q ∈ DP,p≠q->ν p.2≠ν q.2)->Zaa P md ops (OnlyNormal Q) L S F (Zbv (FP.map (·.1)) l0) (Zal (FP.map (·.2)) a0 ν) w) :
    Zaa P md ops (OnlyNormal Q) L S (FP.length+F) l0 a0 w0:=by
 simp only[Qh,beq_iff_eq]at hok;obtain⟨⟨⟨⟨⟨h1,h2⟩,h3⟩,h4⟩,h5⟩,h6⟩:=hok;rw[Qm]at h6;have hD:=Zs8 (ops:=ops) FP h3;rw[<- h2]at hD;rw[Qm]at h3 h4 h5
 have I:∀ i,i ∈ Zbj (RP.map (·.1)) att->∃ p ∈ FP,p.1=i:=λi hi=>by
  rw[h2]at hi;exact List.mem_map.1 hi
 have V:=h1;simp only[Zmc,Qh,decide_eq_true_eq]at h1;obtain⟨⟨⟨⟨⟨Y,-⟩,a3⟩,a2⟩,C⟩,-⟩:=h1;obtain⟨t1,-⟩:=Zjr _ l0 Y
 have f:∀ i ∈ Zbj (RP.map (·.1)) att,l0.getD i true=false:=λx hx=>by
  obtain⟨r,hr,J⟩:=List.mem_flatMap.1 hx;rcases List.mem_cons.1 J with rfl|J;exact(t1 x hr).1;rw[Qm]at C
  have:∀ (us done:List Nat),Ziw md ops l0 r us done=true->∀ u ∈ us,l0.getD u true=false:=by
   intro us
   induction us with
   | nil=>intro _ _ u hu;cases hu
   | cons y us ih =>
    intro done h u hu;simp only[Ziw,Qh,Qq]at h;rcases List.mem_cons.1 hu with rfl|hu;exact h.1.1.1.2;exact ih _ h.2 u hu
  exact this _ _ (C r hr) x J
 have U:left (Zbj (RP.map (·.1)) att) l0=FP.length:=by
  unfold left;rw[List.filter_eq_self.2 (λr hr=>by rw[f r hr];rfl),h2,QE]
 have h:=Z0w (P:=P) (ops:=ops) (Q:=Q) (md:=md) (L:=L) (S:=S) (RP.map (·.1)) att (DP.map (·.1)) (λi hi=>by
  obtain⟨p,hp,rfl⟩:=List.mem_map.1 hi;exact List.mem_map.2 ⟨p,List.contains_iff_mem.1 (h6 p hp),rfl⟩) Φ (F:=F) (a0:=a0) (w0:=w0) V (λu hu=>by
  obtain⟨p,hp,rfl⟩:=I u hu;have:=h5 p hp;intro hc;rw[List.contains_iff_mem.2 hc]at this;cases this) (λi hi=>by
  obtain⟨p,hp,rfl⟩:=I i hi;exact hst p hp) hS (λi hi ν w hb hP=>by
  obtain⟨p,hp,rfl⟩:=List.mem_map.1 hi
  have:=hop p hp ν w hb (λq hq hc=>by
   have o:=hP q.1 (by rw[h2];exact List.mem_map.2 ⟨q,hq,rfl⟩) (List.contains_iff_mem.1 hc);have e:=h3 q hq;simp only[beq_iff_eq]at e;rw[e]at o;exact o)
  have e:=h4 p hp;simp only[beq_iff_eq]at e;rw[hD,e];refine wpOp_mono (λa' w' h=>?_) this;obtain⟨v,k1,k2,k3,k4,k5⟩:=h;refine⟨v,k1,k2,k3,k4,λhi j hj u hu=>?_⟩;obtain⟨p',T,O⟩:=List.mem_map.1 hi;obtain⟨q',a1,rfl⟩:=List.mem_map.1 hj;have e1:=h4 p' (List.contains_iff_mem.1 (h6 p' T));simp only[beq_iff_eq]at e1;have:p'=p:=Prod.ext O (by rw[<- e1,<- e,O]);exact k5 (this▸T) q' a1 u hu) (λν w hb hf hne=>by
  rw[hD,h2]
  exact hfin ν w hb (λp hp=>by
   have o:=hf p.1 (by rw[h2];exact List.mem_map.2 ⟨p,hp,rfl⟩);have e:=h3 p hp;simp only[beq_iff_eq]at e;rw[e]at o;exact o) (λp hp q hq hpq=>by
   have e1:=h4 p (List.contains_iff_mem.1 (h6 p hp));have e2:=h4 q (List.contains_iff_mem.1 (h6 q hq));simp only[beq_iff_eq]at e1 e2;have:=hne p.1 (List.mem_map.2 ⟨p,hp,rfl⟩) q.1 (List.mem_map.2 ⟨q,hq,rfl⟩) (λh=>hpq (Prod.ext h (by rw[<- e1,<- e2,h])));rw[e1,e2]at this;exact this)) FP.length l0 (λd=>a0.tmps.getD d undef) w0 U.symm rfl (λ_ _=>rfl) (λ_ h=>h)
  (λr hr h=>by have h1:=Zev h;rw[f r hr]at h1;cases h1)
  (λr hr u hu=>⟨λh=>(by rw[f r (List.mem_flatMap.2 ⟨r,hr,Qc ..⟩)]at h;cases h),λ_=>f u (List.mem_flatMap.2 ⟨r,hr,Qa _ hu⟩)⟩)
  (Qd _ _) (λr hr h=>by rw[f r hr]at h;cases h)
  (λi hi j hj _ h _=>by
   obtain⟨p,hp,rfl⟩:=List.mem_map.1 hi;rw[f p.1 (List.mem_flatMap.2 ⟨p.1,List.mem_map.2 ⟨p,List.contains_iff_mem.1 (h6 p hp),rfl⟩,Qc ..⟩)]at h;cases h)
 rw[Ztu]at h;exact h
theorem Za5(RP:List (Nat × Nat))(att:Nat->List Nat)(FP:List (Nat × Nat))(Φ:Nat->Value->World->Prop)(F:Nat){l0:Array Bool}{a0:Act}{w0:World}
    (hok:(Zmc md ops (RP.map (·.1)) att l0 && (Zbj (RP.map (·.1)) att == FP.map (·.1)) && FP.all (λp=>Zbn ops p.1 == p.2) && RP.all (λp=>Zbn ops p.1 == p.2) && FP.all (λp=>!L.contains p.1))=true)
    (hst:∀ p ∈ FP,∀ v w w',Below w.heap.size w w'->Φ p.1 v w->Φ p.1 v w') (hS:∀ w',Below w0.heap.size w0 w'->S w')
    (hop:∀ p ∈ RP,∀ (ν:Nat->Value) (w:World),Below w0.heap.size w0 w->(∀ q ∈ FP,(Zbd md ops p.1).contains q.1=true->Φ q.1 (ν q.2) w) ->
     wpOp P ops (OnlyNormal Q) p.1 (λa' w'=>∃ v,a'=(Zal (FP.map (·.2)) a0 ν).put (some p.2) v/\Φ p.1 v w'/\Below w.heap.size w w'/\Zsc P ops Φ w' (att p.1) a') (Zal (FP.map (·.2)) a0 ν) w)
    (hfin:∀ (ν:Nat->Value) (w:World),Below w0.heap.size w0 w->(∀ p ∈ FP,Φ p.1 (ν p.2) w)->Zaa P md ops (OnlyNormal Q) L S F (Zbv (FP.map (·.1)) l0) (Zal (FP.map (·.2)) a0 ν) w) :
    Zaa P md ops (OnlyNormal Q) L S (FP.length+F) l0 a0 w0:=
 Zsq [] RP att FP Φ F (by rw[hok];rfl) hst hS (λp hp ν w hb hP=>wpOp_mono (λa' w' h=>by
  obtain⟨v,k1,k2,k3,k4⟩:=h;exact⟨v,k1,k2,k3,k4,λh=>by cases h⟩) (hop p hp ν w hb hP)) (λν w hb hf _=>hfin ν w hb hf)
end
def Zas(B0:Nat)(q:Rat)(ca mv x0 x1 al as_:Nat)(i:Nat)(v:Value)(w:World):Prop:=
 if i=ca \/ i=mv then ∃ na A n c nb B m d,v=.tuple #[.agg #[.bool na,.slice A n c,.bool nb,.slice B m d],.int .i64 0]/\Fr w na A n c nb B m d q
 else if i=x0 then ∃ na A n c nb B m d,v=.agg #[.bool na,.slice A n c,.bool nb,.slice B m d]/\Fr w na A n c nb B m d q
 else if i=x1 \/ i=as_ then v=.int .i64 0
 else if i=al then ∃ g,v=.pointer (some ⟨g,0,none⟩)/\B0<=g/\Blk w g 41 #[.bool false,.slice none 0 0,.bool false,.slice none 0 0]
 else True
theorem Fc{G:Prop}(h:G:=by
 obtain⟨na,A,n,c,nb,B,m,d,e,hf⟩:=h;exact⟨na,A,n,c,nb,B,m,d,e,hf.below hb⟩):G:=h
theorem Zhj{B0:Nat}{q:Rat}{ca mv x0 x1 al as_ i:Nat}{v:Value}{w w':World}(hb:Below w.heap.size w w')(h:Zas B0 q ca mv x0 x1 al as_ i v w):Zas B0 q ca mv x0 x1 al as_ i v w':=by
 unfold Zas at h ⊢
 split at h
 ·rename_i h1;rw[Gx h1]
  exact Fc
 rename_i h1;rw[Gw h1]
 split at h
 ·rename_i h2;rw[Gx h2]
  exact Fc
 rename_i h2;rw[Gw h2]
 split at h
 rename_i h3;rw[Gx h3];exact h;rename_i h3;rw[Gw h3]
 split at h
 ·rename_i h4;rw[Gx h4]
  obtain⟨g,e,h5,h6⟩:=h;exact⟨g,e,h5,Zc hb h6⟩
 rename_i h4;rw[Gw h4];trivial
theorem FOwn.keptG{t:TypeId}{w w':World}{g:Nat}{qs:List Rat}{G:Nat->Prop}(h:FOwn t w g qs)(hk:Kept G w w')(hg:¬ G g)(hG:∀ k,G k->∃ t cs,Blk w k t cs/\NoLimb cs):FOwn t w' g qs:=by
 obtain⟨es,zs,h1,h2,h3⟩:=h;exact⟨es,zs,hk.blk h1 hg,λe he=>⟨hk.wd (h2 e he).1 hG,hk.wd (h2 e he).2 hG⟩,h3⟩
theorem Fr.zero_iff{w:World}{na:Bool}{A:Option Addr}{n c:Nat}{nb:Bool}{B:Option Addr}{m d:Nat}{r:Rat}(h:Fr w na A n c nb B m d r):n=0 ↔ r=0:=by
 have h1:=h.1.lim.len;have h2:=length_digits_pos (v:=r.num.natAbs);constructor
 ·intro hn
  have:r.num=0:=Gk;exact Rat.num_eq_zero.1 this
 rintro rfl;have:(0:Rat).num.natAbs=0:=rfl;omega
theorem Zc5(es fs:List WE):Zai (es++fs)=Zai es++Zai fs:=by
 induction es with
 | nil=>rfl
 | cons e l ih=>simp only[List.cons_append,Zai,ih]
theorem Zuv(fs:List WE):∀ u ∈ Zai fs,u.oneCell'=true:=by
 induction fs with
 | nil=>intro u h;simp[Zai]at h
 | cons e l ih =>
  intro u h;simp only[Zai,List.mem_cons]at h;rcases h with rfl|rfl|h;rfl;rfl;exact ih u h
theorem Zis(k:Nat):(Qn #[.bool false,.slice none 0 0] k).toList=Zai (Qe k Zct):=by
 rw[Zlh];unfold Qn madeCells;apply QT;intro i;by_cases h:i<k*2;simp[h];simp[h]
def RowW(t:TypeId)(w:World)(base:Nat)(v:Value)(es:List WE):Prop:=
 (v=.slice none 0 0/\es=[]) \/ ∃ g sp,v=.slice (some ⟨g,0,none⟩) es.length (es.length+sp)/\base<=g/\es.length+sp<=maxLen/\Blk w g t (Zbw (es++Qe sp Zct))
section
variable{t:TypeId}{w w':World}{base:Nat}{v:Value}{es:List WE}
theorem RowW.own(h:RowW t w base v es):w.ownsRow base t 2 v es.length (Zai es):=by
 refine⟨Zba es,?_⟩;rcases h with ⟨h1,rfl⟩|⟨g,sp,h1,h2,h3,h4⟩;exact .inl ⟨h1,rfl⟩;refine .inr ⟨g,_,_,h1,h2,h4,QX _ _,h3,?_,?_⟩;simp[Zbw,Zba];simp only[Zbw];rw[Zc5,<- Zba es];exact Yc
theorem RowW.row_ge(h:RowW t w base v es):∀ k,v.ownBlock=some k->base<=k:=λk hk=>(h.own.lt k hk).1
theorem RowW.kept(h:RowW t w base v es)(hb:Below w.heap.size w w'):RowW t w' base v es:=by
 exact FK
theorem RowW.keep(h:RowW t w base v es)(hg:w.grownBy w' v.ownBlock){A:Option Addr}{n c:Nat}{l:List Nat}(hL:Lim w A n c l):Lim w' A n c l:=by
 refine⟨hL.1,hL.2.1,hL.2.2.1,hL.2.2.2.1,λhn=>?_⟩;obtain⟨b,o,e,hc⟩:=hL.2.2.2.2 hn;refine⟨b,o,e,λk hk=>?_⟩;rw[<- hc k hk];refine QM (hg.block b (Zn (hc k hk)) (λe'=>?_));rcases h with ⟨rfl,_⟩|⟨g,sp,rfl,_,_,h4⟩;cases e';have f:b=g:=by simpa [Value.ownBlock]using e'
 subst f;have h1:=hc k hk;rw[h4.cell]at h1;exact Zdo _ _ _ h1
end
section
variable{P:Program}(w:World)
end
def OwnP(t:TypeId)(w:World)(base:Nat)(v:Value)(xs:List Int):Prop:=∃ es,RowW t w base v es/\(∀ e ∈ es,Lim w e.A e.n e.c e.l/\e.ok=true)/\es.map WE.num=xs
section
variable{t:TypeId}{w w':World}{base:Nat}{v:Value}{xs:List Int}
theorem OwnP.nil(t:TypeId)(w:World)(base:Nat):OwnP t w base (.slice none 0 0) []:=⟨[],.inl ⟨rfl,rfl⟩,λe h=>by simp at h,rfl⟩
theorem OwnP.kept(h:OwnP t w base v xs)(hb:Below w.heap.size w w'):OwnP t w' base v xs:=by
 obtain⟨es,h1,h2,h3⟩:=h;exact⟨es,h1.kept hb,λe he=>⟨(h2 e he).1.below hb,(h2 e he).2⟩,h3⟩
theorem OwnP.row_ge(h:OwnP t w base v xs):∀ k,v.ownBlock=some k->base<=k:=by obtain⟨es,h1,_⟩:=h;exact h1.row_ge
theorem OwnP.poly(h:OwnP t w base v xs):∃ A c,v=.slice A xs.length c/\PolyL w A xs.length c xs:=by
 obtain⟨es,h1,h2,rfl⟩:=h;rcases h1 with ⟨rfl,rfl⟩|⟨g,sp,rfl,h4,h5,h6⟩;exact⟨none,0,rfl,[],⟨rfl,Qg _,QB _,λh=>absurd h Gh,λe h=>by simp at h⟩,rfl,λe h=>by simp at h⟩;rw[QE];refine⟨_,es.length+sp,rfl,es,⟨rfl,QX _ _,h5,λ_=>⟨g,0,rfl,λk e he=>?_⟩,λe he=>(h2 e he).1⟩,rfl,λe he=>(h2 e he).2⟩;have hk:k<es.length:=(List.getElem?_eq_some_iff.1 he).1;have hc:=Zjo (es:=es++Qe sp Zct) (i:=k) (e:=e) (by rw[QD hk];exact he);rw[QW,h6.cell,h6.cell];exact hc
theorem Zgj(b:Bool)(A:Option Addr)(n c:Nat):NoLimb #[.bool b,.slice A n c]:=λi x=>by
 match i with
 | 0=>simp
 | 1=>simp
 | i+2=>simp
theorem Wd.of_keep{neg:Bool}{A:Option Addr}{n c:Nat}{z:Int}(hk:∀ (A:Option Addr) (n c:Nat) (l:List Nat),Lim w A n c l->Lim w' A n c l)(h:Wd w neg A n c z):Wd w' neg A n c z:=⟨h.1,h.2.1,hk _ _ _ _ h.2.2⟩
end
theorem OwnP.snoc{t:TypeId}{w:World}{base:Nat}{v:Value}{xs:List Int}{neg:Bool}{A:Option Addr}{n c:Nat}{z:Int}{W:World}(h:OwnP t w base v (xs ++ [⟨neg,A,n,c,digits z.natAbs⟩].map WE.num))(hW:Wd W neg A n c z):OwnP t w base v (xs ++ [z]):=by
 rw[List.map_cons,List.map_nil,show WE.num ⟨neg,A,n,c,digits z.natAbs⟩=z from hW.sgEq]at h;exact h
section
variable{P:Program}(w:World)
end
structure RS where
 A:Option Addr
 n:Nat
 c:Nat
def RS.val(r:RS):Value:=.slice r.A r.n r.c
def Zan:List RS->List Value
 | []=>[]
 | e::l=>.slice e.A e.n e.c::Zan l
def Z5(es:List RS):Array Value:=(Zan es).toArray
def Za0:RS:=⟨none,0,0⟩
theorem Zbk(es:List RS):(Zan es).length=es.length*1:=by
 induction es with
 | nil=>rfl
 | cons e l ih=>simp only[Zan,QA,ih];omega
theorem Zcn(es:List RS):Zan es=es.map RS.val:=by
 induction es with
 | nil=>rfl
 | cons e l ih=>simp only[Zan,List.map_cons,ih];rfl
theorem Zvi{es:List RS}{i:Nat}{e:RS}(h:es[i]?=some e):(Zan es)[i]?=some (.slice e.A e.n e.c):=by
 rw[Zcn,Qi,h];rfl
theorem Zb7{es:List RS}{i:Nat}{e:RS}(h:es[i]?=some e):(Z5 es)[i]?=some (.slice e.A e.n e.c):=by simpa [Z5]using Zvi h
theorem Zn8(es:List RS):∀ (i x:Nat),(Zan es)[i]?≠some (limb x):=by
 intro i x;rw[Zcn,Qi];cases es[i]? with
 | none=>simp
 | some e=>simp[RS.val]
theorem Za7(es:List RS):NoLimb (Z5 es):=λi x=>by simpa [Z5]using Zn8 es i x
theorem Zc3(es fs:List RS):Zan (es++fs)=Zan es++Zan fs:=by simp only[Zcn,List.map_append]
theorem Zvn(fs:List RS):∀ u ∈ Zan fs,u.oneCell'=true:=by
 intro u h;rw[Zcn]at h;obtain⟨r,-,rfl⟩:=List.mem_map.1 h;rfl
theorem Zdw{es:List RS}{i:Nat}(e:RS):(Z5 es).setIfInBounds i (.slice e.A e.n e.c)=Z5 (es.set i e):=by
 unfold Z5;rw[Zcn,Zcn,Yf];simp[RS.val]
theorem Zix(k:Nat):(Qn #[.slice none 0 0] k).toList=Zan (Qe k Za0):=by
 rw[Zcn];unfold Qn;apply QT;intro i;by_cases h:i<k;simp[h,Za0,RS.val,QH,Nat.mod_one];simp[h,QH]
def RowS(t:TypeId)(w:World)(base:Nat)(v:Value)(es:List RS):Prop:=
 (v=.slice none 0 0/\es=[]) \/ ∃ g sp,v=.slice (some ⟨g,0,none⟩) es.length (es.length+sp)/\base<=g/\es.length+sp<=maxLen/\Blk w g t (Z5 (es++Qe sp Za0))
section
variable{t:TypeId}{w w':World}{base:Nat}{v:Value}{es:List RS}
theorem RowS.own(h:RowS t w base v es):w.ownsRow base t 1 v es.length (Zan es):=by
 refine⟨Zbk es,?_⟩;rcases h with ⟨h1,rfl⟩|⟨g,sp,h1,h2,h3,h4⟩;exact .inl ⟨h1,rfl⟩;refine .inr ⟨g,_,_,h1,h2,h4,QX _ _,h3,?_,?_⟩;simp[Z5,Zbk];simp only[Z5];rw[Zc3,<- Zbk es];exact Yc
theorem RowS.row_ge(h:RowS t w base v es):∀ k,v.ownBlock=some k->base<=k:=λk hk=>(h.own.lt k hk).1
theorem RowS.kept(h:RowS t w base v es)(hb:Below w.heap.size w w'):RowS t w' base v es:=by
 exact FK
theorem RowS.keep(h:RowS t w base v es)(hg:w.grownBy w' v.ownBlock){A:Option Addr}{n c:Nat}{l:List Nat}(hL:Lim w A n c l):Lim w' A n c l:=by
 refine⟨hL.1,hL.2.1,hL.2.2.1,hL.2.2.2.1,λhn=>?_⟩;obtain⟨b,o,e,hc⟩:=hL.2.2.2.2 hn;refine⟨b,o,e,λk hk=>?_⟩;rw[<- hc k hk];refine QM (hg.block b (Zn (hc k hk)) (λe'=>?_));rcases h with ⟨rfl,_⟩|⟨g,sp,rfl,_,_,h4⟩;cases e';have f:b=g:=by simpa [Value.ownBlock]using e'
 subst f;have h1:=hc k hk;rw[h4.cell]at h1;exact Za7 _ _ _ h1
end
section
variable{P:Program}(w:World)
theorem Zm1(base:Nat)(t ty e:TypeId)(i:TypeInfo)(ht:P.underlying t=some (.slice e))(hi:P.info? e=some i)(hz:i.zero=some (.slice none 0 0))
    (hs:i.size=1) (hby:i.bytes=24) (v:Value) (es:List RS) (aq:RowS e w base v es)
    (B:Nat) (A:Option Addr) (m c:Nat) (fs:List RS) (hr:Reads w B 1 A m (Zan fs)) (hm:fs.length=m) (h63:es.length+m<=1000) (hbase:base<=w.heap.size) :
    ∃ v' w',(Builtin.append_ #[t,t] ty #[v,.slice A m c]).run P w=.ok v' w'/\RowS e w' base v' (es++fs)/\w.grownBy w' v.ownBlock:=by
 rcases Nat.eq_zero_or_pos m with h0|h0
 ·subst h0
  obtain rfl:fs=[]:=QO hm;rw[List.append_nil];rcases A with _|ad;exact⟨v,w,Zch w base t ty e i 1 ht hi v _ _ aq.own c,aq,World.grownBy.refl w _⟩;exact EW
 obtain⟨ad,rfl,_,hc⟩:=hr.2 h0;have hl:(Zan fs).length=m*i.size:=by rw[Zbk,hm,hs]
 have y:es.length*i.size=(Zan es).length:=by rw[Zbk,hs]
 rcases aq with ⟨rfl,rfl⟩|⟨g,sp,rfl,h2,h3,h4⟩
 ·have f:=run_append_nil (P:=P) w t ty e i _ ht hi hz ad m c (Zan fs) hl hc h0 Gk (by rw[hby];omega)
  have h:=grownCap_ge w m 0 e;have o:=grownCap_le_maxLen w m 0 e (by unfold maxLen;simp only[List.length_nil]at h63;omega);refine⟨_,_,f,.inr ⟨w.heap.size,grownCap w m 0 e-m,?_,hbase,?_,?_⟩,⟨rfl,rfl,rfl,by simp,λk hk _=>Below.heap_alloc w.drew _ k hk⟩⟩;rw[Yr,hm,QC h];rw[Yr,hm,QC h];exact o;have:=heap_alloc_new w.drew (.cells ((Zan fs).toArray++Qn (Value.slice none 0 0).cells (grownCap w m 0 e-m)) e);unfold Blk;refine this.trans ?_;congr 1
  have hx:(Zan fs).toArray++Qn (Value.slice none 0 0).cells (grownCap w m 0 e-m)=Z5 ([]++fs++Qe (grownCap w m 0 e-m) Za0):=by
   apply Array.toList_inj.1;rw[QP,show (Value.slice none 0 0).cells=#[.slice none 0 0] from rfl,Zix];simp[Z5,Zc3]
  rw[hx]
 by_cases hroom:m<=sp
 ·have f:=run_append_room (P:=P) w t ty e i ht hi g es.length (es.length+sp) _ h4 ad m c (Zan fs) hl hc (Zvn fs) Gk (by rw[y,Zbk,Zbk];simp[Z5,Zbk];omega)
  refine⟨_,_,f,.inr ⟨g,sp-m,?_,h2,?_,?_⟩,⟨rfl,rfl,rfl,by simp[World.setRow],λk _ hk=>setRow_other w g k _ (λe'=>hk (by simp[Value.ownBlock,e']))⟩⟩;rw[Qs,hm,show es.length+m+(sp-m)=es.length+sp by omega];rw[Qs,hm];omega;refine(setRow_heap w g _ _ e _ h4).trans ?_;congr 2;unfold Z5;congr 1;rw[y];have I:Qe sp Za0=Qe m Za0++Qe (sp-m) Za0:=by rw[List.replicate_append_replicate];congr 1;omega
  have J:(Zan fs).length=(Zan (Qe m Za0)).length:=by rw[Zbk,Zbk,hm,List.length_replicate]
  simp only[Zc3];rw[Yc,J,<- Qs,I,Zc3,<- Yj (Zan es),List.drop_left,Yj]
 have C:∀ j u,(Zan es)[j]?=some u->w.cell? ((⟨g,0,none⟩:Addr).add j)=some u:=λj u hu=>by
   rw[Zg,QW,h4.cell];simp only[Z5,List.getElem?_toArray,Zc3];exact Fi
 have f:=run_append_grow (P:=P) w t ty e i _ ht hi hz ⟨g,0,none⟩ es.length (es.length+sp) (Zan es) y.symm C ad m c (Zan fs) hl hc Gk Gk (growslice_fits Gk (by rw[hby];omega));have h:=grownCap_ge w (es.length+m) (es.length+sp) e;have o:=grownCap_le_maxLen w (es.length+m) (es.length+sp) e (by unfold maxLen;omega);refine⟨_,_,f,.inr ⟨w.heap.size,grownCap w (es.length+m) (es.length+sp) e-(es.length+m),?_,hbase,?_,?_⟩,⟨rfl,rfl,rfl,by simp,λk hk _=>Below.heap_alloc w.drew _ k hk⟩⟩;rw[Qs,hm,QC h];rw[Qs,hm,QC h];exact o;have:=heap_alloc_new w.drew (.cells ((Zan es).toArray++(Zan fs).toArray++Qn (Value.slice none 0 0).cells (grownCap w (es.length+m) (es.length+sp) e-(es.length+m))) e);unfold Blk;refine this.trans ?_;congr 1
 have hx:(Zan es).toArray++(Zan fs).toArray++Qn (Value.slice none 0 0).cells (grownCap w (es.length+m) (es.length+sp) e-(es.length+m))=Z5 (es++fs++Qe (grownCap w (es.length+m) (es.length+sp) e-(es.length+m)) Za0):=by
  apply Array.toList_inj.1;rw[QP,QP,show (Value.slice none 0 0).cells=#[.slice none 0 0] from rfl,Zix];simp[Z5,Zc3]
 rw[hx]
end
def Zu:Nat->(Nat->Rat)->Rat
 | 0,_=>0
 | n+1,f=>Zu n f+f n
def Zco(i a:Nat):Nat:=if a<i then a else a+1
def sgnQ(i:Nat):Rat:=if i%2=0 then 1 else -1
def Zap:Nat->(Nat->Nat->Rat)->Rat
 | 0,_=>1
 | n+1,M=>Zu (n+1) λi=>sgnQ i*M i 0*Zap n (λa b=>M (Zco i a) (b+1))
theorem Zy{n:Nat}{f g:Nat->Rat}(h:∀ i,i<n->f i=g i):Zu n f=Zu n g:=by
 induction n with
 | zero=>rfl
 | succ n ih=>simp only[Zu];rw[ih (λi hi=>h i Gk),h n Gk]
theorem Ft{G:Prop}(h:G:=by
 induction n with
 | zero=>simp only[Zu];grind
 | succ n ih=>simp only[Zu];rw[ih];grind):G:=h
theorem Ze2{n:Nat}(f g:Nat->Rat)(x y:Rat):Zu n (λi=>x*f i+y*g i)=x*Zu n f+y*Zu n g:=by
 exact Ft
theorem Ze1{n:Nat}{f:Nat->Rat}(h:∀ i,i<n->f i=0):Zu n f=0:=by
 induction n with
 | zero=>rfl
 | succ n ih=>simp only[Zu];rw[ih (λi hi=>h i Gk),h n Gk];grind
theorem Zge{n:Nat}{f:Nat->Rat}(k:Nat)(hk:k<n)(h:∀ i,i<n->i≠k->f i=0):Zu n f=f k:=by
 induction n with
 | zero=>omega
 | succ n ih =>
  simp only[Zu];by_cases hn:k=n
  ·subst hn
   rw[Ze1 (λi hi=>h i Gk Gk)];grind
  rw[ih Gk (λi hi=>h i Gk),h n Gk Gk];grind
theorem Z0l{n:Nat}{f:Nat->Rat}(k:Nat)(hk:k+1<n)(h:∀ i,i<n->i≠k->i≠k+1->f i=0):Zu n f=f k+f (k+1):=by
 induction n with
 | zero=>omega
 | succ n ih =>
  simp only[Zu];by_cases hn:k+1=n
  ·subst hn
   rw[Zge k Gk (λi hi h2=>h i Gk h2 Gk)]
  rw[ih Gk (λi hi=>h i Gk),h n Gk Gk Gk];grind
theorem Zro{i a n:Nat}(ha:a<n):Zco i a<n+1:=by unfold Zco;split <;> omega
theorem Zzp(i a:Nat):Zco i a≠i:=by unfold Zco;split <;> omega
theorem Zjd{i k:Nat}(h:k≠i):Zco i (if k<i then k else k-1)=k:=by
 unfold Zco;by_cases h1:k<i;rw[Gx h1,Gx h1];rw[Gw h1,Gw Gk];omega
theorem Zyz{i a b:Nat}(h:Zco i a=Zco i b):a=b:=by unfold Zco at h;split at h <;> split at h <;> omega
theorem Za4{n:Nat}{M N:Nat->Nat->Rat}(h:∀ a b,a<n->b<n->M a b=N a b):Zap n M=Zap n N:=by
 induction n generalizing M N with
 | zero=>rfl
 | succ n ih =>
  simp only[Zap];refine Zy λi hi=>?_;rw[h i 0 hi Gk,ih (λa b ha hb=>h _ _ (Zro ha) Gk)]
def Zah(M:Nat->Nat->Rat)(k:Nat)(r:Nat->Rat):Nat->Nat->Rat:=λa b=>if a=k then r b else M a b
theorem Zft{M:Nat->Nat->Rat}{k i:Nat}{r:Nat->Rat}(h:k≠i) :
    (λa b=>Zah M k r (Zco i a) (b+1))=Zah (λa b=>M (Zco i a) (b+1)) (if k<i then k else k-1) (λb=>r (b+1)):=by
 funext a b
 unfold Zah;by_cases ha:a=(if k<i then k else k-1);rw[Gx ha,ha,Zjd h,Gx rfl];rw[Gw ha,Gw];intro e;exact ha (Zyz (i:=i) (by rw[e,Zjd h]))
theorem Zfu{M:Nat->Nat->Rat}{k:Nat}{r:Nat->Rat}:(λa b=>Zah M k r (Zco k a) (b+1))=(λa b=>M (Zco k a) (b+1)):=by
 funext a b
 unfold Zah;rw[Gw (Zzp k a)]
theorem Zhe{n:Nat}(M:Nat->Nat->Rat){k:Nat}(hk:k<n)(r s:Nat->Rat)(x y:Rat) :
    Zap n (Zah M k (λb=>x*r b+y*s b))=x*Zap n (Zah M k r)+y*Zap n (Zah M k s):=by
 induction n generalizing M k r s with
 | zero=>omega
 | succ n ih =>
  simp only[Zap];rw[<- Ze2];refine Zy λi hi=>?_;by_cases h:k=i
  ·subst h
   rw[Zfu,Zfu,Zfu];simp only[Zah,if_true]
   grind
  rw[Zft h,Zft h,Zft h];rw[ih (λa b=>M (Zco i a) (b+1)) (k:=if k<i then k else k-1) (by split <;> omega) (λb=>r (b+1)) (λb=>s (b+1))];simp only[Zah,Gw (show ¬ i=k from λe=>h e.symm)]
  grind
theorem Zxd(i:Nat):sgnQ (i+1)=- sgnQ i:=by
 unfold sgnQ;rcases QS i with h|h;rw[Gx h,Gw Gk];rw[Gw (by omega:¬ i%2=0),Gx Gk];grind
theorem Zrw{n:Nat}{M:Nat->Nat->Rat}{k:Nat}(hk:k+1<n)(h:∀ b,M (k+1) b=M k b):Zap n M=0:=by
 induction n generalizing M k with
 | zero=>omega
 | succ n ih =>
  simp only[Zap];rw[Z0l k hk]
  ·have hm:(λa b=>M (Zco k a) (b+1))=(λa b=>M (Zco (k+1) a) (b+1)):=by
     funext a b
     by_cases ha:a=k
     ·subst ha
      simp only[Zco,Gw (Yd a),Gx (Yo a)];exact h _
     have:Zco k a=Zco (k+1) a:=by unfold Zco;split <;> split <;> omega
     rw[this]
   rw[hm,h 0,Zxd];grind
  intro i hi h1 h2;rw[ih (M:=λa b=>M (Zco i a) (b+1)) (k:=if k<i then k else k-1)]
  ·grind
  ·split <;> omega
  intro b;have e1:Zco i (if k<i then k else k-1)=k:=Zjd (Qv h1);have e2:Zco i ((if k<i then k else k-1)+1)=k+1:=by unfold Zco;split <;> split <;> omega
  rw[e1,e2];exact h _
theorem Zeb(M:Nat->Nat->Rat)(k:Nat):Zah M k (M k)=M:=by
 funext a b;unfold Zah;split
 rename_i h;rw[h];rfl
theorem Zcf(M:Nat->Nat->Rat){k l:Nat}(h:k≠l)(r s:Nat->Rat):Zah (Zah M k r) l s=Zah (Zah M l s) k r:=by
 funext a b;unfold Zah
 by_cases h1:a=k;subst h1;simp[h];simp[h1]
theorem Zmx{n:Nat}(M:Nat->Nat->Rat){k:Nat}(hk:k<n)(r s:Nat->Rat) :
    Zap n (Zah M k (λb=>r b+s b))=Zap n (Zah M k r)+Zap n (Zah M k s):=by
 have:=Zhe M hk r s 1 1;rw[show (λb=>r b+s b)=(λb=>1*r b+1*s b) by funext b;grind,this];grind
theorem Zj2{n:Nat}{k l:Nat}(hk:k<n)(hl:l<n)(hne:k≠l)(hz:∀ (M:Nat->Nat->Rat),(∀ b,M k b=M l b)->Zap n M=0)(M:Nat->Nat->Rat)(r s:Nat->Rat) :
    Zap n (Zah (Zah M k r) l s)=- Zap n (Zah (Zah M k s) l r):=by
 have h:=hz (Zah (Zah M k (λb=>r b+s b)) l (λb=>r b+s b)) (λb=>by simp[Zah,hne]);have h1:=hz (Zah (Zah M k r) l r) (λb=>by simp[Zah,hne]);have h2:=hz (Zah (Zah M k s) l s) (λb=>by simp[Zah,hne]);rw[Zmx _ hl,Zcf _ hne,Zcf _ hne,Zmx _ hk,Zmx _ hk,<- Zcf _ hne,<- Zcf _ hne,<- Zcf _ hne,<- Zcf _ hne,h1,h2]at h
 grind
theorem Zlo{n:Nat}:∀ (d:Nat) (M:Nat->Nat->Rat) (k:Nat),k+d+1<n->(∀ b,M k b=M (k+d+1) b)->Zap n M=0:=by
 intro d
 induction d with
 | zero=>intro M k hk h;exact Zrw hk (λb=>(h b).symm)
 | succ d ih =>
  intro M k hk h;have h1:=Zj2 (n:=n) (k:=k+d+1) (l:=k+d+2) Gk Gk Gk (λM h=>Zrw (k:=k+d+1) Gk (λb=>(h b).symm)) M (M (k+d+1)) (M (k+d+2));rw[Zeb,Zeb]at h1;rw[h1,ih _ k Gk]
  ·grind
  intro b;have:=h b;rw[show k+(d+1)+1=k+d+2 by omega]at this;simp only[Zah];rw[Gw Gk,Gw Gk,Gw Gk];simpa using this
theorem Zkf{n:Nat}{M:Nat->Nat->Rat}{k l:Nat}(hk:k<n)(hl:l<n)(hne:k≠l)(h:∀ b,M k b=M l b):Zap n M=0:=by
 rcases Yh hne with h1|h1;exact Zlo (l-k-1) M k Gk (λb=>by rw[show k+(l-k-1)+1=l by omega];exact h b);exact Zlo (k-l-1) M l Gk (λb=>by rw[show l+(k-l-1)+1=k by omega];exact(h b).symm)
theorem Zyl{n:Nat}(M:Nat->Nat->Rat){k l:Nat}(hk:k<n)(hl:l<n)(hne:k≠l):Zap n (Zah (Zah M k (M l)) l (M k))=- Zap n M:=by
 have h:=Zj2 hk hl hne (λM h=>Zkf hk hl hne h) M (M l) (M k);rw[h];congr 1;rw[Zeb];congr 1
 funext a b
 unfold Zah
 split
 rename_i h;rw[h];rfl
theorem Zsn{n:Nat}(M:Nat->Nat->Rat){k l:Nat}(hk:k<n)(hl:l<n)(hne:k≠l)(c:Rat):Zap n (Zah M k (λb=>M k b+c*M l b))=Zap n M:=by
 have h:=Zhe M hk (M k) (M l) 1 c
 rw[show (λb=>M k b+c*M l b)=(λb=>1*M k b+c*M l b) by funext b;grind,h,Zeb,
  Zkf (M:=Zah M k (M l)) hk hl hne (λb=>by simp[Zah,Qv hne])]
 grind
theorem Im{G:Prop}(h:G:=by
 by_cases ha:a=l;simp[ha];rw[Gw ha,Gw ha];by_cases h1:a<m;rw[Gx h1,Gx Gk];rw[Gw h1,Gw Gk]):G:=h
theorem FS{G:Prop}(h:G:=by
 unfold Zah;by_cases ha:a=m;subst ha;simp[hml];rw[Gw ha];by_cases bS:a=l;simp[bS];rw[Gw bS];by_cases h1:a<m;rw[Gx Gk];simp[bS,h1];rw[Gw Gk];simp[bS,h1]):G:=h
theorem Znj{n:Nat}(M:Nat->Nat->Rat){l:Nat}(hl:l<n)(c:Nat->Rat):Zap n (λa b=>if a=l then M a b else M a b+c a*M l b)=Zap n M:=by
 have key:∀ m,m<=n->Zap n (λa b=>if a=l then M a b else if a<m then M a b+c a*M l b else M a b)=Zap n M:=by
  intro m
  induction m with
  | zero=>intro _;congr 1;funext a b;split <;> rfl
  | succ m ih =>
   intro hm;have h0:=ih Gk;by_cases hml:m=l
   ·rw[<- h0];congr 1;funext a b
    exact Im
   have h1:=Zsn (n:=n) (λa b=>if a=l then M a b else if a<m then M a b+c a*M l b else M a b) (k:=m) (l:=l) Gk hl hml (c m);rw[h0]at h1;rw[<- h1];congr 1;funext a b;exact FS
 rw[<- key n (Qg _)];exact Za4 λa b ha hb=>by rw[Gx ha]
def Za6:Nat->(Nat->Rat)->Rat
 | 0,_=>1
 | n+1,f=>Za6 n f*f n
theorem Zdb{n:Nat}{f g:Nat->Rat}(h:∀ i,i<n->f i=g i):Za6 n f=Za6 n g:=by
 induction n with
 | zero=>rfl
 | succ n ih=>simp only[Za6];rw[ih (λi hi=>h i Gk),h n Gk]
theorem Zre{n:Nat}(f:Nat->Rat):Za6 (n+1) f=f 0*Za6 n (λi=>f (i+1)):=by
 induction n generalizing f with
 | zero=>simp only[Za6];grind
 | succ n ih=>rw[Za6,ih,Za6];grind
theorem Zj7{n:Nat}{M:Nat->Nat->Rat}(h:∀ a b,a<n->b<a->M a b=0):Zap n M=Za6 n (λi=>M i i):=by
 induction n generalizing M with
 | zero=>rfl
 | succ n ih =>
  simp only[Zap];rw[Zge 0 Gk]
  ·rw[Zre,ih]
   ·have:sgnQ 0=1:=rfl
    rw[this,Zdb (g:=λi=>M (i+1) (i+1)) (λi hi=>by simp only[Zco];rw[Gw Gk])];grind
   intro a b ha hb;simp only[Zco];rw[Gw Gk];exact h _ _ Gk Gk
  intro i hi h0;rw[h i 0 hi Gk];grind
def Zaf(Z:List (List Int))(i j:Nat):Int:=(Z[i]?.getD [])[j]?.getD 0
def Zi(R:List (List Rat))(i j:Nat):Rat:=(R[i]?.getD [])[j]?.getD 0
def Zag{α:Type}(l:List α)(i j:Nat):List α:=match l[i]?,l[j]? with
 | some x,some y=>(l.set i y).set j x
 | _,_=>l
def Zrn(p row:List Int)(col:Nat)(piv last:Int):List Int:=(Qt row.length).map λk=>Int.fdiv (row[k]?.getD 0*piv-row[col]?.getD 0*p[k]?.getD 0) last
def Zdv(Z:List (List Int))(r col:Nat)(last:Int):List (List Int):=
 (Qt Z.length).map λi=>if i<=r then Z[i]?.getD []else Zrn (Z[r]?.getD []) (Z[i]?.getD []) col (Zaf Z r col) last
def Zn5(p row:List Rat)(col:Nat):List Rat:=(Qt row.length).map λk=>if k<col then row[k]?.getD 0 else row[k]?.getD 0-row[col]?.getD 0/p[col]?.getD 0*p[k]?.getD 0
def Zbt(R:List (List Rat))(r col:Nat):List (List Rat):=(Qt R.length).map λi=>if i<=r then R[i]?.getD []else Zn5 (R[r]?.getD []) (R[i]?.getD []) col
def Zbr(z:Nat->Bool)(n:Nat):Nat->Nat->Nat
 | 0,k=>k
 | f+1,k=>if k<n/\z k=true then Zbr z n f (k+1)else k
def Zam:Nat->Nat->Nat->List (List Int)->Bool->Int->List (List Int) × Nat × Bool × Int
 | 0,_,r,Z,neg,last=>(Z,r,neg,last)
 | f+1,col,r,Z,neg,last =>
  if r=Z.length then (Z,r,neg,last)
  else if Zbr (λi=>Zaf Z i col == 0) Z.length Z.length r=Z.length then Zam f (col+1) r Z neg last
  else Zam f (col+1) (r+1) (Zdv (Zag Z (Zbr (λi=>Zaf Z i col == 0) Z.length Z.length r) r) r col last) (neg != decide (Zbr (λi=>Zaf Z i col == 0) Z.length Z.length r≠r)) (Zaf Z (Zbr (λi=>Zaf Z i col == 0) Z.length Z.length r) col)
def Zbf:Nat->Nat->Nat->List (List Rat)->Bool->List (List Rat) × Nat × Bool
 | 0,_,r,R,neg=>(R,r,neg)
 | f+1,col,r,R,neg =>
  if r=R.length then (R,r,neg)
  else if Zbr (λi=>Zi R i col == 0) R.length R.length r=R.length then Zbf f (col+1) r R neg
  else Zbf f (col+1) (r+1) (Zbt (Zag R (Zbr (λi=>Zi R i col == 0) R.length R.length r) r) r col) (neg != decide (Zbr (λi=>Zi R i col == 0) R.length R.length r≠r))
theorem Zfb{z:Nat->Bool}{n:Nat}:∀ {f k:Nat},n<=k+f->k<=n->k<=Zbr z n f k/\Zbr z n f k<=n/\(∀ i,k<=i->i<Zbr z n f k->z i=true)/\(Zbr z n f k<n->z (Zbr z n f k)=false)
 | 0,k,h,hk=>by
  obtain rfl:k=n:=Gk;exact⟨Qg _,Qg _,λi h1 h2=>by simp only[Zbr]at h2;omega,λh=>by simp only[Zbr]at h;omega⟩
 | f+1,k,h,hk=>by
  unfold Zbr;by_cases hc:k<n/\z k=true
  ·rw[Gx hc]
   obtain⟨h1,h2,h3,h4⟩:=Zfb (z:=z) (n:=n) (f:=f) (k:=k+1) Gk Gk;refine⟨by omega,h2,λi hi1 hi2=>?_,h4⟩;by_cases hik:i=k;rw[hik];exact hc.2;exact h3 i Gk hi2
  rw[Gw hc];refine⟨Qg _,hk,λi h1 h2=>by omega,λhkn=>?_⟩;cases hz:z k with
  | false=>rfl
  | true=>exact absurd ⟨hkn,hz⟩ hc
theorem Zl6{z:Nat->Bool}{n f k q:Nat}(h:n<=k+f)(hk:k<=q)(hq:q<=n)(h1:∀ i,k<=i->i<q->z i=true)(h2:q<n->z q=false):Zbr z n f k=q:=by
 obtain⟨a,b,c,d⟩:=Zfb (z:=z) h (Qo hk hq);rcases Nat.lt_trichotomy (Zbr z n f k) q with h3|h3|h3;have:=d Gk;rw[h1 _ a h3]at this;cases this;exact h3;have:=c q hk h3;rw[h2 Gk]at this;cases this
theorem Zrx{y z:Nat->Bool}{n f k:Nat}(h:n<=k+f)(hk:k<=n)(he:∀ i,k<=i->i<n->y i=z i):Zbr y n f k=Zbr z n f k:=by
 obtain⟨a,b,c,d⟩:=Zfb (z:=z) h hk;exact Zl6 h a b (λi h1 h2=>by rw[he i h1 Gk];exact c i h1 h2) (λh1=>by rw[he _ a h1];exact d h1)
def BndQ(B:Nat)(q:Rat):Prop:=∃ z:Int,q=(z:Rat)/\z.natAbs<=B
theorem BndQ.add{B C:Nat}{p q:Rat}(h:BndQ B p)(k:BndQ C q):BndQ (B+C) (p+q):=by
 obtain⟨a,rfl,h1⟩:=h;obtain⟨b,rfl,h2⟩:=k;exact⟨a+b,by rw[Rat.intCast_add],by omega⟩
theorem BndQ.mul{B C:Nat}{p q:Rat}(h:BndQ B p)(k:BndQ C q):BndQ (B*C) (p*q):=by
 obtain⟨a,rfl,h1⟩:=h;obtain⟨b,rfl,h2⟩:=k;exact⟨a*b,by rw[QF],by rw[Int.natAbs_mul];exact Qz h1 h2⟩
theorem BndQ.mono{B C:Nat}{q:Rat}(h:BndQ B q)(hBC:B<=C):BndQ C q:=by obtain⟨a,h1,h2⟩:=h;exact⟨a,h1,by omega⟩
def Zbp(B:Nat):Nat->Nat
 | 0=>1
 | n+1=>(n+1)*(B*Zbp B n)
theorem Znr{B n:Nat}{f:Nat->Rat}(h:∀ i,i<n->BndQ B (f i)):BndQ (n*B) (Zu n f):=by
 induction n with
 | zero=>exact⟨0,rfl,by simp⟩
 | succ n ih=>rw[Nat.succ_mul];exact(ih λi hi=>h i Gk).add (h n Gk)
theorem Z04(i:Nat):BndQ 1 (sgnQ i):=by unfold sgnQ;split;exact⟨1,rfl,by decide⟩;exact⟨-1,rfl,by decide⟩
theorem Zhk{B n:Nat}{M:Nat->Nat->Rat}(h:∀ a b,a<n->b<n->BndQ B (M a b)):BndQ (Zbp B n) (Zap n M):=by
 induction n generalizing M with
 | zero=>exact⟨1,rfl,by simp[Zbp]⟩
 | succ n ih =>
  simp only[Zap,Zbp];refine Znr λi hi=>?_;have:=((Z04 i).mul (h i 0 hi Gk)).mul (ih (M:=λa b=>M (Zco i a) (b+1)) λa b ha hb=>h _ _ (Zro ha) Gk)
  rwa [Nat.one_mul]at this
theorem Zc4{B m n:Nat}(hB:1<=B)(h:m<=n):Zbp B m<=Zbp B n:=by
 induction n with
 | zero=>obtain rfl:m=0:=by omega
         exact Qg _
 | succ n ih =>
  by_cases hm:m=n+1;rw[hm];exact Qg _;refine Qo (ih Gk) ?_;simp only[Zbp]
  calc Zbp B n=1*(1*Zbp B n):=Gh
   _<=(n+1)*(B*Zbp B n):=Qz Gk (Qz hB (Qg _))
def swI(k r i:Nat):Nat:=if i=k then r else if i=r then k else i
theorem Zqo(k r i:Nat):swI k r (swI k r i)=i:=by
 unfold swI;by_cases h1:i=k
 ·subst h1
  by_cases h2:i=r;simp[h2];simp[Qv h2]
 by_cases h2:i=r;subst h2;simp[h1];simp[h1,h2]
theorem Zdy{α:Type}{l:List α}{k r:Nat}(hk:k<l.length)(hr:r<l.length)(i:Nat):(Zag l k r)[i]?=l[swI k r i]?:=by
 unfold Zag;rw[Qf hk,Qf hr];simp only;unfold swI;rw[Yk,Yk,List.length_set];by_cases h1:r=i
 ·subst h1
  rw[Gx rfl,Gx hr];by_cases h2:r=k;subst h2;simp[hr];rw[Gw h2,Gx rfl,Qf hk]
 rw[Gw h1];by_cases h2:k=i;subst h2;simp[hk,hr];rw[Gw h2,Gw (Qv h2),Gw (Qv h1)]
theorem Zec{α:Type}(l:List α)(k r:Nat):(Zag l k r).length=l.length:=by unfold Zag;split <;> simp
theorem Zhv{k r i n:Nat}(hk:k<n)(hr:r<n)(hi:i<n):swI k r i<n:=by unfold swI;split <;> (try split) <;> omega
structure EIR (B S n m col r:Nat) (R:List (List Rat)) (pc:Nat->Nat) (G:Nat->Nat->Rat) (s:Nat->Rat):Prop where
 len:R.length=n
 row:∀ i,i<n->(R[i]?.getD []).length=m
 pcl:∀ l,l<r->pc l<col
 inc:∀ l l',l<l'->l'<r->pc l<pc l'
 low:∀ i j,r<=i->i<n->j<col->Zi R i j=0
 bef:∀ l j,l<r->j<pc l->Zi R l j=0
 piv:∀ l,l<r->Zi R l (pc l)≠0
 rn:r<=n
 cm:col<=m
 sB:∀ i,i<n->BndQ S (s i)/\s i≠0
 gB:∀ i j,i<n->BndQ B (G i j)
 det:∀ (N:Nat) (f σ:Nat->Nat),(∀ a,a<N->σ a<n)->(∀ a,a<r->σ a=a)->(∀ a,r<=a->r<=σ a)->Zap N (λa b=>s (σ a)*Zi R (σ a) (f b))=Zap N (λa b=>G (σ a) (f b))
def Zeo(R:List (List Rat))(pc:Nat->Nat)(s:Nat->Rat)(l:Nat):Rat:=Za6 l (λi=>s i*Zi R i (pc i))
section
variable{B S n m col r:Nat}{R:List (List Rat)}{pc:Nat->Nat}{G:Nat->Nat->Rat}{s:Nat->Rat}
theorem EIR.minor_eq(h:EIR B S n m col r R pc G s){i:Nat}(hi:i<n)(j:Nat) :
    Zeo R pc s (min i r)*(s i*Zi R i j)=Zap (min i r+1) (λa b=>G (if a<min i r then a else i) (if b<min i r then pc b else j)):=by
 obtain⟨q,hq⟩:∃ q,q=min i r:=⟨_,rfl⟩;rw[<- hq];have e:=h.rn
 have hd:=h.det (q+1) (λb=>if b<q then pc b else j) (λa=>if a<r then a else if i<r then a else i)
  (λa ha=>by
   by_cases h1:a<r;rw[Gx h1];omega
   ·rw[Gw h1];by_cases h2:i<r
    omega;rw[Gw h2];exact hi) (λa ha=>by rw[Gx ha]) (λa ha=>by
   rw[Gw Gk];by_cases h2:i<r;rw[Gx h2];exact ha;rw[Gw h2];omega)
 have hσ:∀ a,a<q+1->(if a<r then a else if i<r then a else i)=if a<q then a else i:=by
  intro a ha;by_cases h1:a<q;rw[Gx h1,Gx Gk];rw[Gw h1];by_cases h2:i<r;rw[Gx Gk];omega;rw[Gw Gk,Gw h2]
 rw[<- Za4 (M:=λa b=>G (if a<r then a else if i<r then a else i) (if b<q then pc b else j)) (N:=λa b=>G (if a<q then a else i) (if b<q then pc b else j)) (λa b ha hb=>by rw[hσ a ha])];rw[<- hd,Zj7]
 ·rw[Za6]
  unfold Zeo;congr 1
  ·refine Zdb λa ha=>?_
   rw[Gx ha,Gx Gk]
  rw[Gw (Yd q)];have:=hσ q (Yo q);rw[Gw (Yd q)]at this;rw[this]
 intro a b ha hb;rw[Gx (by omega:b<q),hσ a ha];by_cases h1:a<q;rw[Gx h1,h.bef a (pc b) Gk (h.inc b a hb Gk)];grind;rw[Gw h1];by_cases h2:i<r;rw[h.bef i (pc b) h2 (h.inc b i Gk h2)];grind;rw[h.low i (pc b) Gk hi (h.pcl b Gk)];grind
theorem EIR.minor(h:EIR B S n m col r R pc G s){i:Nat}(hi:i<n)(j:Nat):BndQ (Zbp B (min i r+1)) (Zeo R pc s (min i r)*(s i*Zi R i j)):=by
 rw[h.minor_eq hi j];refine Zhk λa b ha hb=>h.gB _ _ ?_
 split <;> omega
theorem EIR.piv_ne(h:EIR B S n m col r R pc G s){l:Nat}(hl:l<=r):Zeo R pc s l≠0:=by
 induction l with
 | zero=>unfold Zeo Za6;grind
 | succ l ih =>
  have h1:=ih Gk;have h2:=h.piv l Gk;have h3:=(h.sB l (by have:=h.rn;omega)).2;unfold Zeo at h1 ⊢;rw[Za6];intro h0;rcases Rat.mul_eq_zero.1 h0 with h0|h0;exact h1 h0;rcases Rat.mul_eq_zero.1 h0 with h0|h0;exact h3 h0;exact h2 h0
theorem EIR.pivL_bnd(h:EIR B S n m col r R pc G s){l:Nat}(hl:l<=r):BndQ (Zbp B l) (Zeo R pc s l):=by
 cases l with
 | zero=>exact⟨1,rfl,by simp[Zbp]⟩
 | succ l =>
  have h1:=h.minor (i:=l) (by have:=h.rn;omega) (pc l);rw[show min l r=l by omega]at h1;unfold Zeo at h1 ⊢;rw[Za6];exact h1
theorem FI{G:Prop}(h:G:=by
 refine Nat.le_trans (Nat.div_le_self _ _) ?_;rw[Int.natAbs_mul];rcases Int.lt_or_gt_of_ne h with g|g;rw[Int.sign_eq_neg_one_of_neg g];simp;rw[Int.sign_eq_one_of_pos g];simp):G:=h
theorem numQ_le(a b:Int)(h:b≠0):(Rat.divInt a b).num.natAbs<=a.natAbs:=by
 rw[Rat.num_divInt,Int.natAbs_ediv_of_dvd];exact FI;exact Int.dvd_trans (Int.gcd_dvd_right _ _) (Int.dvd_mul_left _ _)
theorem Zex{B C:Nat}{p q:Rat}(h:BndQ B (q*p))(k:BndQ C q)(hq:q≠0):p.num.natAbs<=B/\p.den<=C:=by
 obtain⟨a,h1,h2⟩:=h;obtain⟨b,h3,h4⟩:=k;have hb:b≠0:=by rintro rfl;rw[h3]at hq;exact hq rfl
 have hp:p=Rat.divInt a b:=by
  rw[Yl,<- h1,h3];have:(b:Rat)≠0:=by rw[<- h3];exact hq
  grind
 rw[hp];constructor;exact Qo (numQ_le a b hb) h2;rw[Rat.den_divInt,Gw hb];exact Qo (Ys _ _) h4
theorem EIR.bound(h:EIR B S n m col r R pc G s)(hB:1<=B){i:Nat}(hi:i<n)(j:Nat):(Zi R i j).num.natAbs<=Zbp B n/\(Zi R i j).den<=Zbp B n*S:=by
 have h1:=h.minor hi j;have h2:=h.pivL_bnd (l:=min i r) Gk;have h3:=h.sB i hi;have h4:=h.piv_ne (l:=min i r) Gk;rw[<- Rat.mul_assoc]at h1
 have h5:=Zex h1 (h2.mul h3.1) (λh0=>by
  rcases Rat.mul_eq_zero.1 h0 with h0|h0;exact h4 h0;exact h3.2 h0)
 have h6:=Zc4 hB (show min i r+1<=n by omega);have h7:=Zc4 hB (show min i r<=n by omega);exact⟨by omega,Qo h5.2 (Qz h7 (Qg _))⟩
theorem Zid{k r:Nat}(hk:k<R.length)(hr:r<R.length)(i j:Nat):Zi (Zag R k r) i j=Zi R (swI k r i) j:=by
 unfold Zi;rw[Zdy hk hr]
theorem Zmj{k r i:Nat}(hk:r<=k)(hi:i<r):swI k r i=i:=by unfold swI;rw[Gw Gk,Gw Gk]
theorem Zq0{k r i:Nat}(hk:r<=k)(hi:r<=i):r<=swI k r i:=by unfold swI;split <;> (try split) <;> omega
theorem EIR.skip(h:EIR B S n m col r R pc G s)(hc:col<m)(hz:∀ i,r<=i->i<n->Zi R i col=0):EIR B S n m (col+1) r R pc G s:=
 { h with
  pcl:=λl hl=>by have:=h.pcl l hl;omega
  cm:=hc
  low:=λi j hi hn hj=>by
   by_cases hjc:j=col;rw[hjc];exact hz i hi hn;exact h.low i j hi hn Gk }
theorem EIR.swap(h:EIR B S n m col r R pc G s){k:Nat}(hk:k<n)(hrk:r<=k):EIR B S n m col r (Zag R k r) pc (λi j=>G (swI k r i) j) (λi=>s (swI k r i)):=by
 have hr:r<n:=Gk;have hl:=h.len;have he:∀ i j,Zi (Zag R k r) i j=Zi R (swI k r i) j:=Zid Gk Gk;have e:∀ {i},i<n->swI k r i<n:=λhi=>Zhv hk hr hi;refine⟨by rw[Zec];exact hl,λi hi=>by rw[Zdy Gk Gk];exact h.row _ (e hi),h.pcl,h.inc,λi j hi hn hj=>?_,λl j hl' hj=>?_,λl hl'=>?_,h.rn,h.cm,λi hi=>h.sB _ (e hi),λi j hi=>h.gB _ _ (e hi),λN f σ h1 h2 h3=>?_⟩;rw[he];exact h.low _ _ (Zq0 hrk hi) (e hn) hj;rw[he,Zmj hrk hl'];exact h.bef l j hl' hj;rw[he,Zmj hrk hl'];exact h.piv l hl';have:=h.det N f (λa=>swI k r (σ a)) (λa ha=>e (h1 a ha)) (λa ha=>by rw[h2 a ha,Zmj hrk ha]) (λa ha=>Zq0 hrk (h3 a ha));rw[<- this];exact Za4 λa b _ _=>by rw[he]
theorem Zgu(hrow:∀ i,i<R.length->(R[i]?.getD []).length=m)(hlow:∀ j,j<col->Zi R r j=0)(i j:Nat)(hi:i<R.length)(hr:r<R.length) :
    Zi (Zbt R r col) i j=if i<=r then Zi R i j else Zi R i j-Zi R i col/Zi R r col*Zi R r j:=by
 unfold Zbt;show ((List.map _ (Qt R.length))[i]?.getD [])[j]?.getD 0=_;rw[Qi,Qr hi];simp only[Qp,Qk];by_cases h1:i<=r;rw[Gx h1,Gx h1];rfl;rw[Gw h1,Gw h1];unfold Zn5;rw[Qi];by_cases hj:j<(R[i]?.getD []).length
 ·rw[Qr hj]
  simp only[Qp,Qk];by_cases hjc:j<col
  ·rw[Gx hjc,hlow j hjc]
   show Zi R i j=_
   grind
  rw[Gw hjc];rfl
 rw[Qj (l:=Qt _) (by simpa using hj)];simp only[Ya,QY];have e1:Zi R i j=0:=by unfold Zi;rw[Qj Gk];rfl
 have e2:Zi R r j=0:=by unfold Zi;rw[Qj (by rw[hrow i hi]at hj;rw[hrow r hr];omega)];rfl
 rw[e1,e2];grind
theorem Ze5:(Zbt R r col).length=R.length:=by unfold Zbt;simp
theorem Zm6(i:Nat)(hi:i<R.length):((Zbt R r col)[i]?.getD []).length=(R[i]?.getD []).length:=by
 unfold Zbt;rw[Qi,Qr hi];simp only[Qp,Qk]
 split
 rfl;unfold Zn5;simp
theorem EIR.clear(h:EIR B S n m col r R pc G s)(hc:col<m)(hr:r<n)(hp:Zi R r col≠0):EIR B S n m (col+1) (r+1) (Zbt R r col) (λl=>if l=r then col else pc l) G s:=by
 have hl:=h.len
 have he:∀ i j,i<n->Zi (Zbt R r col) i j=if i<=r then Zi R i j else Zi R i j-Zi R i col/Zi R r col*Zi R r j:=
  λi j hi=>Zgu (m:=m) (λi hi=>h.row i Gk) (λj hj=>h.low r j (Qg _) hr hj) i j Gk Gk
 refine⟨by rw[Ze5];exact hl,λi hi=>by rw[Zm6 i Gk];exact h.row i hi,λl hl'=>?_,λl l' h1 h2=>?_,λi j hi hn hj=>?_,λl j hl' hj=>?_,λl hl'=>?_,hr,hc,h.sB,h.gB,λN f σ h1 h2 h3=>?_⟩
 ·split
  omega;have:=h.pcl l Gk;omega
 ·rw[Gw (by omega:¬ l=r)]
  split
  exact h.pcl l Gk;exact h.inc l l' h1 Gk
 ·rw[he i j hn,Gw Gk]
  by_cases hjc:j=col;rw[hjc];grind;rw[h.low i j Gk hn Gk,h.low r j (Qg _) hr Gk];grind
 ·rw[he l j Gk,Gx Gk]
  by_cases hlr:l=r
  ·rw[hlr];simp only[hlr,if_true]at hj
   exact h.low r j (Qg _) hr hj
  simp only[Gw hlr]at hj;exact h.bef l j Gk hj
 ·rw[he l _ Gk,Gx Gk]
  by_cases hlr:l=r;simp only[hlr,if_true];exact hp;simp only[Gw hlr];exact h.piv l Gk
 rw[<- h.det N f σ h1 (λa ha=>h2 a (by omega)) (λa ha=>by
   by_cases har:a=r;rw[har,h2 r Gk];exact Qg _;have:=h3 a Gk;omega)]
 by_cases hN:N<=r
 ·refine Za4 λa b ha hb=>?_
  rw[he _ _ (h1 a ha),Gx];rw[h2 a Gk];omega
 have hσr:σ r=r:=h2 r Gk;rw[<- Znj (λa b=>s (σ a)*Zi R (σ a) (f b)) (l:=r) (n:=N) Gk (λa=>if a<=r then 0 else-(s (σ a)*Zi R (σ a) col/(s r*Zi R r col)))];refine Za4 λa b ha hb=>?_;rw[he _ _ (h1 a ha)];by_cases har:a<=r
 ·rw[h2 a Gk,Gx har]
  simp only[Gx har]
  split
  rfl
  grind
 have:=h3 a Gk;rw[Gw Gk,Gw Gk,Gw har,hσr];have hs:=(h.sB r hr).2
 grind
structure EIZ (n m r:Nat) (R:List (List Rat)) (pc:Nat->Nat) (s:Nat->Rat) (Z:List (List Int)) (last:Int):Prop where
 len:Z.length=n
 row:∀ i,i<n->(Z[i]?.getD []).length=m
 last:(last:Rat)=Zeo R pc s r
 ent:∀ i j,i<n->(Zaf Z i j:Rat)=Zeo R pc s (min i r)*(s i*Zi R i j)
theorem Znl{R':List (List Rat)}{pc':Nat->Nat}{s':Nat->Rat}{l:Nat}(h:∀ i,i<l->s i*Zi R i (pc i)=s' i*Zi R' i (pc' i)):Zeo R pc s l=Zeo R' pc' s' l:=Zdb h
theorem Zgo{a b:Int}(h:(a:Rat)=(b:Rat)):a=b:=by exact_mod_cast h
theorem EIZ.last_ne{Z:List (List Int)}{last:Int}(h:EIR B S n m col r R pc G s)(k:EIZ n m r R pc s Z last):last≠0:=by
 rintro rfl;exact h.piv_ne (Qg r) (k.last.symm.trans rfl)
theorem EIZ.last_bnd{Z:List (List Int)}{last:Int}(h:EIR B S n m col r R pc G s)(k:EIZ n m r R pc s Z last)(hB:1<=B):last.natAbs<=Zbp B n:=by
 obtain⟨z,h1,h2⟩:=h.pivL_bnd (Qg r);rw[<- k.last]at h1;rw[Zgo h1];exact Qo h2 (Zc4 hB h.rn)
theorem EIZ.bnd{Z:List (List Int)}{last:Int}(h:EIR B S n m col r R pc G s)(k:EIZ n m r R pc s Z last)(hB:1<=B){i:Nat}(hi:i<n)(j:Nat):(Zaf Z i j).natAbs<=Zbp B n:=by
 obtain⟨z,h1,h2⟩:=h.minor hi j;rw[<- k.ent i j hi]at h1;rw[Zgo h1];exact Qo h2 (Zc4 hB Gk)
theorem EIZ.zero{Z:List (List Int)}{last:Int}(h:EIR B S n m col r R pc G s)(k:EIZ n m r R pc s Z last){i:Nat}(hi:i<n)(j:Nat):(Zaf Z i j == 0)=(Zi R i j == 0):=by
 have h1:=k.ent i j hi;have h2:=h.piv_ne (l:=min i r) Gk;have h3:=(h.sB i hi).2;by_cases h0:Zi R i j=0
 ·rw[h0]at h1 ⊢
  have:Zaf Z i j=0:=Zgo (by rw[h1];grind);rw[this];rfl
 have:Zaf Z i j≠0:=by
   intro hz;rw[hz]at h1;rcases Rat.mul_eq_zero.1 h1.symm with h4|h4;exact h2 h4;rcases Rat.mul_eq_zero.1 h4 with h4|h4;exact h3 h4;exact h0 h4
 rw[beq_eq_false_iff_ne.2 this,beq_eq_false_iff_ne.2 h0]
theorem Zh4{Z:List (List Int)}{k r:Nat}(hk:k<Z.length)(hr:r<Z.length)(i j:Nat):Zaf (Zag Z k r) i j=Zaf Z (swI k r i) j:=by
 unfold Zaf;rw[Zdy hk hr]
theorem EIZ.swap{Z:List (List Int)}{last:Int}(h:EIR B S n m col r R pc G s)(q:EIZ n m r R pc s Z last){k:Nat}(hk:k<n)(hrk:r<=k):EIZ n m r (Zag R k r) pc (λi=>s (swI k r i)) (Zag Z k r) last:=by
 have hr:r<n:=Gk;have hl:=h.len;have e:=q.len;have he:∀ i j,Zi (Zag R k r) i j=Zi R (swI k r i) j:=Zid Gk Gk;have hp:∀ l,l<=r->Zeo (Zag R k r) pc (λi=>s (swI k r i)) l=Zeo R pc s l:=λl hl=>Znl λi hi=>by rw[he,Zmj hrk Gk]
 refine⟨by rw[Zec];exact e,λi hi=>by rw[Zdy Gk Gk];exact q.row _ (Zhv hk hr hi),?_,λi j hi=>?_⟩;rw[hp r (Qg r)];exact q.last;rw[hp _ Gk,he,Zh4 Gk Gk,q.ent _ j (Zhv hk hr hi)]
 have:min (swI k r i) r=min i r:=by
  by_cases hir:i<r;rw[Zmj hrk hir];have:=Zq0 (i:=i) hrk Gk;omega
 rw[this]
theorem Zuw{Z:List (List Int)}{last:Int}(hrow:∀ i,i<Z.length->(Z[i]?.getD []).length=m)(i j:Nat)(hi:i<Z.length) :
    Zaf (Zdv Z r col last) i j=if i<=r then Zaf Z i j else if j<m then Int.fdiv (Zaf Z i j*Zaf Z r col-Zaf Z i col*Zaf Z r j) last else 0:=by
 unfold Zdv;show ((List.map _ (Qt Z.length))[i]?.getD [])[j]?.getD 0=_;rw[Qi,Qr hi];simp only[Qp,Qk];by_cases h1:i<=r;rw[Gx h1,Gx h1];rfl;rw[Gw h1,Gw h1];unfold Zrn;rw[Qi];by_cases hj:j<(Z[i]?.getD []).length;rw[Qr hj,Gx (by rw[hrow i hi]at hj;exact hj)];rfl;rw[Qj (l:=Qt _) (by simpa using hj),Gw (by rw[hrow i hi]at hj;exact hj)];rfl
theorem Zi3{Z:List (List Int)}{last:Int}:(Zdv Z r col last).length=Z.length:=by unfold Zdv;simp
theorem Zvl{Z:List (List Int)}{last:Int}(i:Nat)(hi:i<Z.length):((Zdv Z r col last)[i]?.getD []).length=(Z[i]?.getD []).length:=by
 unfold Zdv;rw[Qi,Qr hi];simp only[Qp,Qk]
 split
 rfl;unfold Zrn;simp
theorem Zr3(hrow:∀ i,i<n->(R[i]?.getD []).length=m){i j:Nat}(hi:i<n)(hj:m<=j):Zi R i j=0:=by
 unfold Zi;rw[Qj (by rw[hrow i hi];exact hj)];rfl
theorem EIZ.clear{Z:List (List Int)}{last:Int}(h:EIR B S n m col r R pc G s)(q:EIZ n m r R pc s Z last)(hc:col<m)(hr:r<n)(hp:Zi R r col≠0) :
    EIZ n m (r+1) (Zbt R r col) (λl=>if l=r then col else pc l) s (Zdv Z r col last) (Zaf Z r col):=by
 have hl:=h.len;have C:=q.len;have h':=h.clear hc hr hp
 have he:∀ i j,i<n->Zi (Zbt R r col) i j=if i<=r then Zi R i j else Zi R i j-Zi R i col/Zi R r col*Zi R r j:=
  λi j hi=>Zgu (m:=m) (λi hi=>h.row i Gk) (λj hj=>h.low r j (Qg _) hr hj) i j Gk Gk
 have u:∀ l,l<=r->Zeo (Zbt R r col) (λl=>if l=r then col else pc l) s l=Zeo R pc s l:=λl hl=>Znl λi hi=>by
  rw[he _ _ Gk,Gx Gk,Gw Gk]
 have e:Zeo (Zbt R r col) (λl=>if l=r then col else pc l) s (r+1)=Zeo R pc s r*(s r*Zi R r col):=by
  rw[Zeo,Za6];have:=u r (Qg r);unfold Zeo at this;rw[this,he _ _ hr,Gx (Qg r),Gx rfl];rfl
 refine⟨by rw[Zi3];exact C,λi hi=>by rw[Zvl i Gk];exact q.row i hi,?_,λi j hi=>?_⟩;rw[e,q.ent r col hr,show min r r=r by omega];rw[Zuw (m:=m) (λi hi=>q.row i Gk) i j Gk];by_cases hir:i<=r;rw[Gx hir,u _ Gk,he _ _ hi,Gx hir,q.ent i j hi,show min i (r+1)=min i r by omega];rw[Gw hir];by_cases hj:j<m
 ·rw[Gx hj]
  obtain⟨z,f,-⟩:=h'.minor hi j;rw[show min i (r+1)=r+1 by omega,e,he _ _ hi,Gw hir]at f;have y:=q.last_ne h;have e1:=q.ent i j hi;have e2:=q.ent r col hr;have e3:=q.ent i col hi;have e4:=q.ent r j hr;have e5:=q.last;rw[show min i r=r by omega]at e1 e3;rw[show min r r=r by omega]at e2 e4
  have o:Zaf Z i j*Zaf Z r col-Zaf Z i col*Zaf Z r j=last*z:=Zgo (by
   rw[Rat.intCast_sub,QF,QF,QF,e1,e2,e3,e4,e5,<- f]
   grind)
  rw[o,Int.mul_comm,Int.mul_fdiv_cancel _ y,<- f,show min i (r+1)=r+1 by omega,e,he _ _ hi,Gw hir]
 rw[Gw hj,Zr3 (n:=n) h'.row hi Gk];have:((0:Int):Rat)=0:=rfl;rw[this];grind
end
def BdZ(C m:Nat)(Z:List (List Int)):Prop:=(∀ i,i<Z.length->(Z[i]?.getD []).length=m)/\∀ i j,(Zaf Z i j).natAbs<C
def BdR(C D m:Nat)(R:List (List Rat)):Prop:=(∀ i,i<R.length->(R[i]?.getD []).length=m)/\∀ i j,(Zi R i j).num.natAbs<C/\(Zi R i j).den<D
def okZ(C m:Nat):Nat->Nat->Nat->List (List Int)->Int->Prop
 | 0,_,_,Z,last=>BdZ C m Z/\last≠0/\last.natAbs<C
 | f+1,col,r,Z,last=>BdZ C m Z/\(last≠0/\last.natAbs<C)/\(r=Z.length \/
     (Zbr (λi=>Zaf Z i col == 0) Z.length Z.length r=Z.length->okZ C m f (col+1) r Z last) /\
     (Zbr (λi=>Zaf Z i col == 0) Z.length Z.length r≠Z.length->okZ C m f (col+1) (r+1) (Zdv (Zag Z (Zbr (λi=>Zaf Z i col == 0) Z.length Z.length r) r) r col last) (Zaf Z (Zbr (λi=>Zaf Z i col == 0) Z.length Z.length r) col)))
def okR(C D m:Nat):Nat->Nat->Nat->List (List Rat)->Prop
 | 0,_,_,R=>BdR C D m R
 | f+1,col,r,R=>BdR C D m R/\(r=R.length \/
     (Zbr (λi=>Zi R i col == 0) R.length R.length r=R.length->okR C D m f (col+1) r R) /\
     (Zbr (λi=>Zi R i col == 0) R.length R.length r≠R.length->okR C D m f (col+1) (r+1) (Zbt (Zag R (Zbr (λi=>Zi R i col == 0) R.length R.length r) r) r col)))
def sgB(b:Bool):Rat:=if b then -1 else 1
theorem Zx3{n k r:Nat}(f:Nat->Rat)(hk:k<n)(hr:r<n):Za6 n (λi=>f (swI k r i))=Za6 n f:=by
 by_cases e:k=r
 ·subst e;refine Zdb λi _=>?_
  unfold swI;split;rename_i h;rw[h];rfl
 have key:∀ n (f:Nat->Rat) k r,k<r->r<n->Za6 n (λi=>f (swI k r i))=Za6 n f:=by
   intro n
   induction n with
   | zero=>intro f k r _ h;omega
   | succ n ih =>
    intro f k r e hr;by_cases hrn:r=n
    ·subst hrn
     have o:∀ (m:Nat) (g h:Nat->Rat),k<m->(∀ i,i<m->i≠k->g i=h i)->Za6 m g*h k=Za6 m h*g k:=by
      intro m
      induction m with
      | zero=>intro g h hk _;omega
      | succ m ihm =>
       intro g h hk he;simp only[Za6];by_cases hkm:k=m
       ·subst hkm
        rw[Zdb (f:=g) (g:=h) (λi hi=>he i Gk Gk)];grind
       have:=ihm g h Gk (λi hi=>he i Gk);rw[he m Gk Gk];grind
     simp only[Za6];have e1:swI k r r=k:=by unfold swI;rw[Gw Gk,Gx rfl]
     have e2:swI k r k=r:=by unfold swI;rw[Gx rfl]
     have:=o r (λi=>f (swI k r i)) f e (λi hi hik=>by unfold swI;rw[Gw hik,Gw Gk]);simp only[e2]at this;rw[e1];exact this
    simp only[Za6];rw[ih f k r e Gk];have:swI k r n=n:=by unfold swI;rw[Gw Gk,Gw Gk]
    rw[this]
 rcases Yh e with h|h;exact key n f k r h hr;have:∀ i,swI k r i=swI r k i:=λi=>by unfold swI;split <;> split <;> omega
 rw[<- key n f r k h hk];exact Zdb λi _=>by rw[this]
theorem Z06{n k r:Nat}(M:Nat->Nat->Rat)(hk:k<n)(hr:r<n):Zap n (λa b=>M (swI k r a) b)=if k=r then Zap n M else-Zap n M:=by
 by_cases hkr:k=r
 ·subst hkr
  rw[Gx rfl];refine Za4 λa b _ _=>?_;unfold swI;split;rename_i h;rw[h];rfl
 rw[Gw hkr,<- Zyl M hk hr hkr];congr 1
 funext a b
 unfold swI Zah;by_cases h1:a=k;subst h1;rw[Gx rfl,Gw hkr,Gx rfl];rw[Gw h1];by_cases h2:a=r;rw[Gx h2,Gx h2];rw[Gw h2,Gw h2,Gw h1]
theorem EIR.bdR{B S n m col r:Nat}{R:List (List Rat)}{pc:Nat->Nat}{G:Nat->Nat->Rat}{s:Nat->Rat}(h:EIR B S n m col r R pc G s)(hB:1<=B)(hS:1<=S):BdR (Zbp B n+1) (Zbp B n*S+1) m R:=by
 have hl:=h.len;refine⟨λi hi=>h.row i Gk,λi j=>?_⟩;by_cases hi:i<n;have:=h.bound hB hi j;omega;have:Zi R i j=0:=by unfold Zi;rw[Qj (l:=R) Gk];rfl
 have h1:1<=Zbp B n:=Zc4 (m:=0) hB Gk;have h2:1*1<=Zbp B n*S:=Qz h1 hS;rw[this];refine⟨by simp,?_⟩;rw[show (0:Rat).den=1 from rfl];omega
theorem EIZ.bdZ{B S n m col r:Nat}{R:List (List Rat)}{pc:Nat->Nat}{G:Nat->Nat->Rat}{s:Nat->Rat}{Z:List (List Int)}{last:Int}(h:EIR B S n m col r R pc G s)(k:EIZ n m r R pc s Z last)(hB:1<=B):BdZ (Zbp B n+1) m Z:=by
 have hl:=k.len;refine⟨λi hi=>k.row i Gk,λi j=>?_⟩;by_cases hi:i<n;have:=k.bnd h hB hi j;omega;have:Zaf Z i j=0:=by unfold Zaf;rw[Qj (l:=Z) Gk];rfl
 rw[this];simp
theorem Zk0{B S n m:Nat}(hB:1<=B)(hS:1<=S):∀ (f col r:Nat) (R:List (List Rat)) (pc:Nat->Nat) (G:Nat->Nat->Rat) (s:Nat->Rat) (Z:List (List Int)) (neg:Bool) (last:Int),
    EIR B S n m col r R pc G s->EIZ n m r R pc s Z last->col+f<=m ->
    okZ (Zbp B n+1) m f col r Z last/\okR (Zbp B n+1) (Zbp B n*S+1) m f col r R /\
    (Zam f col r Z neg last).2.1=(Zbf f col r R neg).2.1/\(Zam f col r Z neg last).2.2.1=(Zbf f col r R neg).2.2 /\
    ∃ e u G' s',EIR B S n m e (Zbf f col r R neg).2.1 (Zbf f col r R neg).1 u G' s'/\EIZ n m (Zbf f col r R neg).2.1 (Zbf f col r R neg).1 u s' (Zam f col r Z neg last).1 (Zam f col r Z neg last).2.2.2 /\
     (e=col+f \/ (Zbf f col r R neg).2.1=n/\e<=col+f)/\Za6 n s'=Za6 n s/\(∀ φ:Nat->Nat,sgB (Zbf f col r R neg).2.2*Zap n (λa b=>G' a (φ b))=sgB neg*Zap n (λa b=>G a (φ b)))
 | 0,col,r,R,pc,G,s,Z,neg,last,h,k,hm=>by
  have h1:=k.last_bnd h hB;exact⟨⟨k.bdZ h hB,k.last_ne h,by omega⟩,h.bdR hB hS,rfl,rfl,col,pc,G,s,h,k,.inl rfl,rfl,λφ=>rfl⟩
 | f+1,col,r,R,pc,G,s,Z,neg,last,h,k,hm=>by
  have y:=h.len;have T:=k.len;have h1:=k.last_bnd h hB;have U:=h.rn
  have C:Zbr (λi=>Zaf Z i col == 0) Z.length Z.length r=Zbr (λi=>Zi R i col == 0) R.length R.length r:=by
   rw[y,T];exact Zrx Gk U (λi h1 h2=>k.zero h h2 col)
  unfold Zam Zbf okZ okR;simp only[C];rw[y]at C ⊢;simp only[T];by_cases hr:r=n
  ·simp only[Gx hr]
   exact⟨⟨k.bdZ h hB,⟨k.last_ne h,by omega⟩,.inl hr⟩,⟨h.bdR hB hS,.inl hr⟩,(by trivial),(by trivial),col,pc,G,s,h,k,.inr ⟨hr,by omega⟩,rfl,λφ=>rfl⟩
  simp only[Gw hr];obtain⟨q,hq⟩:∃ q,Zbr (λi=>Zi R i col == 0) n n r=q:=⟨_,rfl⟩;obtain⟨p1,p2,p3,p4⟩:=Zfb (z:=λi=>Zi R i col == 0) (n:=n) (f:=n) (k:=r) Gk Gk;rw[hq]at p1 p2 p3 p4;simp only[hq];by_cases hqn:q=n
  ·simp only[Gx hqn]
   have hz:∀ i,r<=i->i<n->Zi R i col=0:=λi h1 h2=>by simpa using p3 i h1 Gk
   obtain⟨o1,o2,o3,o4,e,u,G',s',o5,o6,o7,o8,o9⟩:=Zk0 hB hS f (col+1) r R pc G s Z neg last (h.skip Gk hz) k Gk;exact⟨⟨k.bdZ h hB,⟨k.last_ne h,by omega⟩,.inr ⟨λ_=>o1,λhn=>absurd hqn hn⟩⟩,⟨h.bdR hB hS,.inr ⟨λ_=>o2,λhn=>absurd hqn hn⟩⟩,o3,o4,e,u,G',s',o5,o6,by omega,o8,o9⟩
  simp only[Gw hqn];have o:q<n:=Gk;have J:Zi R q col≠0:=by simpa using p4 o
  have O:=h.swap o p1;have ksw:=k.swap h o p1
  have I:Zi (Zag R q r) r col=Zi R q col:=by
   rw[Zid Gk Gk];congr 1;unfold swI;split;rename_i h;exact h;rw[Gx rfl]
  have V:Zaf (Zag Z q r) r col=Zaf Z q col:=by
   rw[Zh4 Gk Gk];congr 1;unfold swI;split;rename_i h;exact h;rw[Gx rfl]
  have Y:=O.clear Gk Gk (by rw[I];exact J);have kcl:=ksw.clear O Gk Gk (by rw[I];exact J);rw[V]at kcl;obtain⟨o1,o2,o3,o4,e,u,G',s',o5,o6,o7,o8,o9⟩:=Zk0 hB hS f (col+1) (r+1) _ _ _ _ _ (neg != decide (q≠r)) _ Y kcl Gk;refine⟨⟨k.bdZ h hB,⟨k.last_ne h,by omega⟩,.inr ⟨λhn=>absurd hn hqn,λ_=>o1⟩⟩,⟨h.bdR hB hS,.inr ⟨λhn=>absurd hn hqn,λ_=>o2⟩⟩,o3,o4,e,u,G',s',o5,o6,by omega,?_,λφ=>?_⟩;rw[o8,Zx3 s o Gk];rw[o9,Z06 (λa b=>G a (φ b)) o Gk];by_cases hqr:q=r
  ·rw[Gx hqr]
   have:decide (q≠r)=false:=by simp[hqr]
   rw[this];cases neg <;> rfl
  rw[Gw hqr];have:decide (q≠r)=true:=by simp[hqr]
  rw[this];cases neg <;> simp[sgB] <;> grind
def denTo(row:List Rat):Nat->Nat
 | 0=>1
 | k+1=>denTo row k*((row[k]?.getD 0).den/Yi (denTo row k) (row[k]?.getD 0).den)
def Zd6(row:List Rat):List Int:=row.map λf=>f.num*((denTo row row.length/f.den:Nat):Int)
def Z6(R:List (List Rat)):List (List Int):=R.map Zd6
def denAt(R:List (List Rat))(i:Nat):Nat:=denTo (R[i]?.getD []) (R[i]?.getD []).length
theorem Zed(row:List Rat)(k:Nat):0<denTo row k:=by
 induction k with
 | zero=>exact Nat.one_pos
 | succ k ih =>
  refine Nat.mul_pos ih (Nat.div_pos (Nat.le_of_dvd (Rat.den_pos _) (QU _ _)) (QZ _ ih))
theorem Zm8(row:List Rat)(k:Nat):denTo row k ∣ denTo row (k+1)/\(row[k]?.getD 0).den ∣ denTo row (k+1):=by
 refine⟨⟨_,rfl⟩,?_⟩;obtain⟨c,hc⟩:=Nat.gcd_dvd_left (denTo row k) (row[k]?.getD 0).den;refine⟨c,?_⟩;simp only[denTo];obtain⟨d,hd⟩:=QU (denTo row k) (row[k]?.getD 0).den;have hg:0<Yi (denTo row k) (row[k]?.getD 0).den:=QZ _ (Zed row k)
 have e:(row[k]?.getD 0).den/Yi (denTo row k) (row[k]?.getD 0).den=d:=by
  rw[Nat.div_eq_iff_eq_mul_left hg (QU _ _),Nat.mul_comm];exact hd
 rw[e]
 calc denTo row k*d=(Yi (denTo row k) (row[k]?.getD 0).den*c)*d:=by rw[<- hc]
  _=(Yi (denTo row k) (row[k]?.getD 0).den*d)*c:=by rw[Nat.mul_assoc,Nat.mul_assoc,Nat.mul_comm c d]
  _=(row[k]?.getD 0).den*c:=by rw[<- hd]
theorem Zk9(row:List Rat){j:Nat}:∀ {k:Nat},j<k->(row[j]?.getD 0).den ∣ denTo row k
 | 0,h=>by omega
 | k+1,h=>by
  by_cases hj:j=k;rw[hj];exact(Zm8 row k).2;exact Nat.dvd_trans (Zk9 row (j:=j) (k:=k) Gk) (Zm8 row k).1
theorem Zrh(row:List Rat){D:Nat}(h:∀ j:Nat,(row[j]?.getD 0).den<=D)(k:Nat):denTo row k<=D^k:=by
 induction k with
 | zero=>exact Qg _
 | succ k ih =>
  rw[Nat.pow_succ];exact Qz ih (Qo (Ys _ _) (h k))
theorem Zkm(row:List Rat):(Zd6 row).length=row.length:=by unfold Zd6;simp
theorem Zqw(row:List Rat)(j:Nat):(((Zd6 row)[j]?.getD 0:Int):Rat)=(denTo row row.length:Nat)*row[j]?.getD 0:=by
 unfold Zd6;rw[Qi];by_cases hj:j<row.length
 ·rw[Qf hj]
  simp only[Qp,Qk];have hd:=Zk9 row hj;rw[Qf hj]at hd;simp only[Qk]at hd;obtain⟨c,hc⟩:=hd;rw[hc,Nat.mul_div_cancel_left _ (Rat.den_pos _),QF,QQ,Rat.natCast_mul];have e0:((row[j].num:Int):Rat)/((row[j].den:Nat):Rat)=row[j]:=by have:=Rat.num_divInt_den row[j];rw[Yl,QQ]at this;exact this
  have e1:((row[j].den:Nat):Rat)≠0:=by
   intro h;have:row[j].den=0:=by exact_mod_cast h
   have:=row[j].den_pos;omega
  have e2:((row[j].num:Int):Rat)=row[j]*((row[j].den:Nat):Rat):=by rw[<- e0];grind
  rw[e2];grind
 rw[Qj Gk];simp only[Ya,QY];have:((0:Int):Rat)=0:=rfl;rw[this];grind
theorem Zgs(R:List (List Rat))(i j:Nat):((Zaf (Z6 R) i j:Int):Rat)=(denAt R i:Nat)*Zi R i j:=by
 unfold Zaf Z6 Zi denAt;rw[Qi];cases h:R[i]? with
 | none=>simp only[Option.map_none,Option.getD_none,List.getElem?_nil];have:((0:Int):Rat)=0:=rfl
         rw[this];grind
 | some row=>simp only[Qp,Qk];exact Zqw row j
theorem Znf{B S n m:Nat}(R:List (List Rat))(hl:R.length=n)(hrow:∀ i,i<n->(R[i]?.getD []).length=m)(hS:∀ i,i<n->denAt R i<=S)(hBd:∀ i j,i<n->(Zaf (Z6 R) i j).natAbs<=B) :
    EIR B S n m 0 0 R (λ_=>0) (λi j=>(denAt R i:Nat)*Zi R i j) (λi=>(denAt R i:Nat))/\EIZ n m 0 R (λ_=>0) (λi=>(denAt R i:Nat)) (Z6 R) 1:=by
 refine⟨⟨hl,hrow,λl h=>by omega,λl l' _ h=>by omega,λi j _ _ h=>by omega,λl j h=>by omega,λl h=>by omega,QB _,QB _,λi hi=>⟨⟨(denAt R i:Nat),by rw[QQ],by rw[Int.natAbs_natCast];exact hS i hi⟩,λh0=>?_⟩,λi j hi=>⟨_,(Zgs R i j).symm,hBd i j hi⟩,λN f σ _ _ _=>rfl⟩,⟨by unfold Z6;simp[hl],λi hi=>?_,rfl,λi j hi=>?_⟩⟩
 ·have:denAt R i=0:=by exact_mod_cast h0
  have:=Zed (R[i]?.getD []) (R[i]?.getD []).length;unfold denAt at *;omega
 ·unfold Z6
  rw[Qi,Qf Gk];simp only[Qp,Qk];rw[Zkm];have:=hrow i hi;rw[Qf Gk]at this;exact this
 rw[Zgs];have:Zeo R (λ_=>0) (λi=>((denAt R i:Nat):Rat)) (min i 0)=1:=by rw[show min i 0=0 by omega];rfl
 rw[this];grind
