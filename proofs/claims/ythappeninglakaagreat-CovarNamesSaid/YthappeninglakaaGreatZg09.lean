/- Systems of observations in memory: lists of int64, and -/
import Derived.Test.YthappeninglakaaGreatZg07
import Derived.Test.YthappeninglakaaGreatZg08
set_option maxRecDepth 100000
set_option maxHeartbeats 4000000
set_option linter.unusedSimpArgs false
set_option linter.unusedVariables false
namespace Go.Proofs.YthappeninglakaaGreat
open Go.RowKit
open Below renaming refl→Qa
open List renaming mem_cons_of_mem→Qb,mem_cons_self→Qd,getElem?_eq_getElem→Qe,replicate→Qf,getElem?_map→Qi,getElem?_eq_none→Qk,all_eq_true→Ql,getElem?_range→Qr,length_append→Qt,getElem?_append_left→Qu,range→Qv,length_cons→QB,length_map→QE,getElem?_replicate→QH,filter_cons_of_neg→QI,filter_cons_of_pos→QJ,mem_of_getElem?→QL,eq_nil_of_length_eq_zero→QO,getElem_of_mem→QP,ext_getElem?→QU,mem_or_eq_of_mem_set→QW,any_eq_true→QX,getElem_mem→QY,take_left→Yh,set_cons_succ→Yj,map_set→Yk,any_eq_false→Yo,append_assoc→Yp,getElem?_set→Yq,foldl_cons→Yt,mem_filter→Yu,nil_append→Yv
open _root_.Array renaming getD_eq_getD_getElem?→Qc,getElem?_eq_getElem→Qm,getElem?_eq_none→Qs,getElem?_setIfInBounds_self→Qw,getElem?_setIfInBounds→Qz,setIfInBounds_comm→QG,toList_append→QQ
open Nat renaming le_refl→Qg,le_trans→Qo,lt_or_ge→Qy,mul_le_mul→QA,zero_le→QC,add_sub_cancel'→QD,lt_of_lt_of_le→QS,mod_two_eq_zero_or_one→QT,gcd_dvd_right→QV,zero_add→QZ,le_add_right→Ya,gcd_pos_of_pos_left→Yc,div_le_self→Ye,lt_irrefl→Yi,add_right_comm→Yl,lt_or_gt_of_ne→Ym,gcd→Yn,lt_succ_self→Ys
open Bool renaming and_eq_true→Qh,not_eq_true'→Qq,true_and→QK,or_eq_true→QN,not_false→Yg
open Option renaming getD_some→Qj,map_some→Qp,getD_none→Yb,map_none→Yf
open Builtin renaming zeroCells→Qn,append_→Yd
open Ne renaming symm→Qx
open Rat renaming intCast_mul→QF,intCast_natCast→QR,divInt_eq_div→Yr
open World renaming cell?_of_block→QM
attribute [local go_sem] Zg
structure RI where
 A:Option Addr
 n:Nat
 c:Nat
 l:List Int
def MIL(w:World)(A:Option Addr)(n c:Nat)(rs:List RI):Prop:=
 rs.length=n/\n<=c/\c<=maxLen/\(∀ r ∈ rs,LimI w r.A r.n r.c r.l)/\(0<n->∃ g o,A=some ⟨g,o,none⟩/\∀ (k:Nat) (r:RI),rs[k]?=some r->w.cell? ⟨g,o+k,none⟩=some (.slice r.A r.n r.c))
section
variable{w w':World}{A:Option Addr}{n c:Nat}{rs:List RI}
theorem MIL.below(h:MIL w A n c rs)(hb:Below w.heap.size w w'):MIL w' A n c rs:=by
 obtain⟨h1,h2,h3,h4,h5⟩:=h;refine⟨h1,h2,h3,λr hr=>(h4 r hr).below hb,λhn=>?_⟩;obtain⟨g,o,e,hc⟩:=h5 hn;exact⟨g,o,e,λk r hr=>(hb.cell (Zo (hc k r hr))).trans (hc k r hr)⟩
theorem MIL.at_(h:MIL w A n c rs){i:Nat}(hi:i<n):∃ g o r,A=some ⟨g,o,none⟩/\rs[i]?=some r/\w.cell? ⟨g,o+i,none⟩=some (.slice r.A r.n r.c)/\LimI w r.A r.n r.c r.l:=by
 obtain⟨h1,h2,h3,h4,h5⟩:=h;obtain⟨g,o,e,hc⟩:=h5 (by omega);obtain⟨r,hr⟩:∃ r,rs[i]?=some r:=⟨_,Qe (by omega)⟩;exact⟨g,o,r,e,hr,hc i r hr,h4 r (QL hr)⟩
theorem LimI.nlen{l:List Int}(h:LimI w A n c l):n<=maxLen:=Qo h.2.1 h.2.2.1
end
def Zpq(least x:Int):Bool:=decide (x<least) || decide (1099511627776<x)
def Zik(least:Int)(l:List Int):Bool:=l.any (Zpq least)
theorem Zwb(x least:Int)(g:Nat)(w:World)(hc:w.cell? ⟨g,0,none⟩=some (.int .i64 least))(b:Bool)(hb:Zpq least x=b) :
    Calls Tryz.prog 138 #[.int .i64 x,.pointer (some ⟨g,0,none⟩)] w λe w'=>e=.returned (.bool b)/\Below w.heap.size w w':=by
 subst hb;by_cases h1:x<least
 ·have t1:decide (x<least)=true:=Gv h1
  go_enter Tryz.func138,Tryz.ntmps138;go_wp2_with fail;go_ret;exact⟨by simp[Zpq,t1],by first|exact Qa _ _|exact Zf (Qa _ _) _⟩
 ·have t1:decide (x<least)=false:=Gu h1
  go_enter Tryz.func138,Tryz.ntmps138;go_wp2_with fail;go_ret;exact⟨by simp[Zpq,t1],by first|exact Qa _ _|exact Zf (Qa _ _) _⟩
theorem Zxn(A:Option Addr)(n c:Nat)(l:List Int)(least:Int)(p:Nat)(w:World)(h:LimI w A n c l)(hp:w.cell? ⟨p,0,none⟩=some (.int .i64 least))(b:Bool)(hb:Zik least l=b) :
    Calls Tryz.prog 125 #[.slice A n c,.func (.func 138) #[] #[.pointer (some ⟨p,0,none⟩)]] w (IdxB w b):=by
 have hl:=h.1;have V:=h.2.1;have J:=h.2.2.1;unfold maxLen at J;have hg:=Za h.2.2.2.2;clear h;replace hl:=Za hl;replace hb:=Za hb;replace hp:=Za hp;go_enter Tryz.func125,Tryz.ntmps125;go_wp2_with fail
 go_loopw [8] (λiv wr=>∃ i:Nat,i<=n/\iv=.int .i64 i/\Hid (∀ j,j<i->Zpq least (l[j]?.getD 0)=false)/\Below w.heap.size w wr) (λiv _=>n-(intOf iv).toNat)
 case atStart=>exact⟨0,QC _,rfl,Za (λj hj=>by omega),Qa _ _⟩
 case round =>
  obtain⟨i,U,rfl,y,f⟩:=hrel;by_cases hin:i<n
  case neg =>
   obtain rfl:n=i:=by omega
   have O:decide ((n:Int)<(n:Int))=false:=by simp
   obtain rfl:b=false:=by
    rw[<- hb.out];unfold Zik;rw[Yo];intro e he;obtain⟨j,hj,T⟩:=QP he;have:=y.out j (by rw[hl.out]at hj;exact hj);rw[Qe hj,T]at this;simp only[Qj]at this;rw[this];decide
   go_wp2_with fail;go_ret;exact⟨-1,rfl,rfl,f⟩
  have O:decide ((i:Int)<(n:Int))=true:=Gv (by omega);obtain⟨g,o,rfl,I⟩:=hg.out (by omega);have c0:=(f.cell (Zo (I i hin))).trans (I i hin);have hC:=Za (λW1 (h1:Below wr.heap.size wr W1)=>Zwb (l[i]?.getD 0) least p W1 ((h1.cell (QS (Zo hp.out) f.size)).trans ((f.cell (Zo hp.out)).trans hp.out)));clear I;obtain⟨x,hx⟩:=Gz (Zpq least (l[i]?.getD 0));cases x
  ·have C:Hid (∀ j,j<i+1->Zpq least (l[j]?.getD 0)=false):=Za (λj hj=>by
     rcases Qy j i with h'|h';exact y.out j h'
     ·obtain rfl:j=i:=by omega
      exact hx)
   replace hx:=Za hx;generalize l[i]?.getD 0=z at *;go_wp2_with fail;refine(hC.out _ (by first|exact Qa _ _|exact Zf (Qa _ _) _) _ hx.out).mono ?_;rintro e' w1 ⟨rfl,u⟩;go_wp2_with fail
   go_roundw
   case rel=>exact⟨i+1,by omega,by go_num,C,(by first|exact f.trans (u.mono f.size)|exact(Zf f _).trans (u.mono f.size))⟩
   case measure=>simp[intOf];omega
  ·obtain rfl:b=true:=by
     rw[<- hb.out];unfold Zik;rw[QX];refine⟨l[i]?.getD 0,?_,hx⟩;have:=hl.out;rw[Qe (by omega)];exact QY _
   replace hx:=Za hx;generalize l[i]?.getD 0=z at *;go_wp2_with fail;refine(hC.out _ (by first|exact Qa _ _|exact Zf (Qa _ _) _) _ hx.out).mono ?_;rintro e' w1 ⟨rfl,u⟩;go_wp2_with fail;go_ret;exact⟨i,rfl,by simp,(by first|exact f.trans (u.mono f.size)|exact(Zf f _).trans (u.mono f.size))⟩
theorem Zuu(A:Option Addr)(n c:Nat)(l:List Int)(least:Int)(p:Nat)(w:World)(h:LimI w A n c l)(hp:w.cell? ⟨p,0,none⟩=some (.int .i64 least))(b:Bool)(hb:Zik least l=b) :
    Calls Tryz.prog 77 #[.slice A n c,.func (.func 138) #[] #[.pointer (some ⟨p,0,none⟩)]] w λe w'=>e=.returned (.bool b)/\Below w.heap.size w w':=by
 go_enter Tryz.func77,Tryz.ntmps77;go_wp2_with fail;refine(Zxn A n c l least p w h hp b hb).mono ?_;rintro e w1 ⟨i,rfl,hi,f⟩;replace hi:=Za hi;go_wp2_with fail;go_ret;exact⟨Zdz hi.out,f⟩
theorem Zg1(A:Option Addr)(n c:Nat)(l:List Int)(least:Int)(w:World)(h:LimI w A n c l)(b:Bool)(hb:Zik least l=b) :
    Calls Tryz.prog 90 #[.slice A n c,.int .i64 least] w λe w'=>e=.returned (.bool b)/\Below w.heap.size w w':=by
 obtain⟨W0,u,f,q0,s0⟩:=Zbe w 2 #[.int .i64 least];have q1:=(q0.cell 0:W0.cell? ⟨w.heap.size,0,none⟩=some (.int .i64 least));have hC:=Za (λW1 (h1:Below W0.heap.size W0 W1)=>Zuu A n c l least w.heap.size W1 ((h.below f).below h1) ((h1.cell (Zo q1)).trans q1) b hb);clear h;go_enter Tryz.func90,Tryz.ntmps90;go_wp2_with fail;refine(hC.out _ (by first|exact Qa _ _|exact Zf (Qa _ _) _)).mono ?_;rintro e w1 ⟨rfl,o⟩;go_wp2_with fail;go_ret;exact⟨rfl,f.trans (o.mono f.size)⟩
theorem Zv0(A:Option Addr)(n c:Nat)(w:World)(hn:n<=maxLen) :
    Calls Tryz.prog 89 #[.slice A n c] w λe w'=>e=.returned (.bool (decide (12<n)))/\Below w.heap.size w w':=by
 unfold maxLen at hn;have hd:decide ((12:Int)<(n:Int))=decide (12<n):=decide_eq_decide.2 (by omega);go_enter Tryz.func89,Tryz.ntmps89;go_wp2_with fail;go_ret;exact⟨by first|rfl|simp[hd],by first|exact Qa _ _|exact Zf (Qa _ _) _⟩
def RI.long(r:RI):Bool:=decide (12<r.n)
theorem Zw0(A:Option Addr)(n c:Nat)(rs:List RI)(w:World)(h:MIL w A n c rs)(b:Bool)(hb:rs.any RI.long=b) :
    Calls Tryz.prog 79 #[.slice A n c,.func (.func 89) #[] #[]] w (IdxB w b):=by
 have hl:=h.1;have U:=h.2.1;have I:=h.2.2.1;unfold maxLen at I;replace hl:=Za hl;replace hb:=Za hb;replace h:=Za h;go_enter Tryz.func79,Tryz.ntmps79;go_wp2_with fail
 go_loopw [8] (λiv wr=>∃ i:Nat,i<=n/\iv=.int .i64 i/\Hid (∀ j e,j<i->rs[j]?=some e->e.long=false)/\Below w.heap.size w wr) (λiv _=>n-(intOf iv).toNat)
 case atStart=>exact⟨0,QC _,rfl,Za (λj e hj=>by omega),Qa _ _⟩
 case round =>
  obtain⟨i,T,rfl,y,f⟩:=hrel;by_cases hin:i<n
  case neg =>
   obtain rfl:n=i:=by omega
   have J:decide ((n:Int)<(n:Int))=false:=by simp
   obtain rfl:b=false:=by
    rw[<- hb.out,Yo];intro e he;obtain⟨j,hj,O⟩:=QP he;have:=y.out j e (by rw[hl.out]at hj;exact hj) (by rw[Qe hj,O]);rw[this];decide
   go_wp2_with fail;go_ret;exact⟨-1,rfl,rfl,f⟩
  have J:decide ((i:Int)<(n:Int))=true:=Gv (by omega);obtain⟨g,o,r,rfl,he,c0,hL⟩:=(h.out.below f).at_ hin;have hC:=Za (λW1=>Zv0 r.A r.n r.c W1 hL.nlen);clear hL;by_cases hx:12<r.n
  ·obtain rfl:b=true:=by
     rw[<- hb.out,QX];exact⟨r,QL he,by unfold RI.long;simpa using hx⟩
   rw[Gv hx]at hC;replace he:=Za he;go_wp2_with fail;refine(hC.out _).mono ?_;rintro e' w1 ⟨rfl,u⟩;go_wp2_with fail;go_ret;exact⟨i,rfl,by simp,(by first|exact f.trans (u.mono f.size)|exact(Zf f _).trans (u.mono f.size))⟩
  ·have C:Hid (∀ j e,j<i+1->rs[j]?=some e->e.long=false):=Za (λj e' hj he'=>by
     rcases Qy j i with h'|h';exact y.out j e' h' he'
     ·obtain rfl:j=i:=by omega
      rw[he]at he';cases he';unfold RI.long;simpa using hx)
   rw[Gu hx]at hC;replace he:=Za he;go_wp2_with fail;refine(hC.out _).mono ?_;rintro e' w1 ⟨rfl,u⟩;go_wp2_with fail
   go_roundw
   case rel=>exact⟨i+1,by omega,by go_num,C,(by first|exact f.trans (u.mono f.size)|exact(Zf f _).trans (u.mono f.size))⟩
   case measure=>simp[intOf];omega
theorem Zun(A:Option Addr)(n c:Nat)(rs:List RI)(w:World)(h:MIL w A n c rs)(b:Bool)(hb:rs.any RI.long=b) :
    Calls Tryz.prog 41 #[.slice A n c,.func (.func 89) #[] #[]] w λe w'=>e=.returned (.bool b)/\Below w.heap.size w w':=by
 go_enter Tryz.func41,Tryz.ntmps41;go_wp2_with fail;refine(Zw0 A n c rs w h b hb).mono ?_;rintro e w1 ⟨i,rfl,hi,f⟩;replace hi:=Za hi;go_wp2_with fail;go_ret;exact⟨Zdz hi.out,f⟩
def n0I(rs:List RI):Nat:=(rs[0]?.map RI.n).getD 0
def Zqf(k:Nat)(r:RI):Bool:=decide (r.n=k) && !Zik (-1099511627776) r.l
def Zlb(rs:List RI):Bool:=decide (200<rs.length) || rs.any RI.long
def sysB(rs:List RI)(right weights:List Int):Bool:=
 !decide (n0I rs=0) && (decide (weights.length=rs.length) && (decide (right.length=rs.length) && (!Zik 1 weights && (!Zik (-1099511627776) right && rs.all (Zqf (n0I rs))))))
def Zdx(rs:List RI)(right weights:List Int):Int:=if Zlb rs=true then 4 else if sysB rs right weights=true then 0 else 8
theorem Zoi{rs:List RI}{a b:List Int}(h:Zlb rs=true):Zdx rs a b=4:=by unfold Zdx;rw[Gx h]
theorem Zyq{rs:List RI}{a b:List Int}(h:Zlb rs=false)(h0:sysB rs a b=false):Zdx rs a b=8:=by unfold Zdx;rw[Gw (by simp[h]),Gw (by simp[h0])]
theorem sysE_ok{rs:List RI}{a b:List Int}(h:Zlb rs=false)(h0:sysB rs a b=true):Zdx rs a b=0:=by unfold Zdx;rw[Gw (by simp[h]),Gx h0]
theorem n0I_at{rs:List RI}{r:RI}(h:rs[0]?=some r):n0I rs=r.n:=by unfold n0I;rw[h];rfl
theorem Zk8(A B C:Option Addr)(n c m d k e0:Nat)(rs:List RI)(rr ws:List Int)(w:World)(h:MIL w A n c rs)(hr:LimI w B m d rr)(hw:LimI w C k e0 ws)(E:Int)(hE:Zdx rs rr ws=E) :
    Calls Tryz.prog 54 #[.slice A n c,.slice B m d,.slice C k e0] w λe w'=>e=.returned (.int .i64 E)/\Below w.heap.size w w':=by
 have hl:=h.1;have d0:=h.2.1;have c6:=h.2.2.1;have a6:=hr.1;have a5:=hw.1;have b9:=hr.nlen;have c4:=hw.nlen;unfold maxLen at c6 b9 c4;replace hE:=Za hE;by_cases h12:200<n
 ·have t1:decide ((200:Int)<(n:Int))=true:=Gv (by omega)
  obtain rfl:E=4:=by rw[<- hE.out];exact Zoi (by unfold Zlb;rw[hl,Gv h12];rfl)
  go_enter Tryz.func54,Tryz.ntmps54;go_wp2_with fail;go_ret;exact⟨rfl,by first|exact Qa _ _|exact Zf Qa _ _ _⟩
 have t1:decide ((200:Int)<(n:Int))=false:=Gu (by omega);obtain⟨x,hx⟩:=Gz (rs.any RI.long);have a3:Zlb rs=x:=by unfold Zlb;rw[hl,Gu h12,hx];rfl
 have hC:=Za (λW1 (hb:Below w.heap.size w W1)=>Zun A n c rs W1 (h.below hb) x hx);clear hx;replace a3:=Za a3;cases x
 case true =>
  obtain rfl:E=4:=by rw[<- hE.out];exact Zoi a3.out
  clear h;go_enter Tryz.func54,Tryz.ntmps54;go_wp2_with fail;refine(hC.out _ (by first|exact Qa _ _|exact Zf Qa _ _ _)).mono ?_;rintro e w1 ⟨rfl,I⟩;have u:Below w.heap.size w w1:=by first|exact I|exact(Qa _ _).trans (I.mono (Qa _ _).size)|exact(Zf (Qa _ _) _).trans (I.mono (Qa _ _).size)
  clear I;go_wp2_with fail;go_ret;exact⟨rfl,by first|exact u|exact Zf u _⟩
 have y:sysB rs rr ws=false->E=8:=λhf=>by rw[<- hE.out];exact Zyq a3.out hf
 have f:sysB rs rr ws=true->E=0:=λhf=>by rw[<- hE.out];exact sysE_ok a3.out hf
 unfold sysB at y f;rw[a6,a5,hl]at y f;replace y:=Za y;replace f:=Za f;clear hE;by_cases hn0:n=0
 ·subst hn0
  obtain rfl:E=8:=y.out (by
   have:rs=[]:=QO hl;rw[this];rfl)
  clear h f y;go_enter Tryz.func54,Tryz.ntmps54;go_wp2_with fail;refine(hC.out _ (by first|exact Qa _ _|exact Zf Qa _ _ _)).mono ?_;rintro e w1 ⟨rfl,I⟩;have u:Below w.heap.size w w1:=by first|exact I|exact(Qa _ _).trans (I.mono (Qa _ _).size)|exact(Zf (Qa _ _) _).trans (I.mono (Qa _ _).size)
  clear I;go_wp2_with fail;go_ret;exact⟨rfl,by first|exact u|exact Zf u _⟩
 have t2:((n:Int) == 0)=false:=by simp;omega
 have c8:decide (n=0)=false:=by simpa using hn0
 obtain⟨g,o,r0,rfl,b6,c0,b7⟩:=h.at_ (i:=0) (by omega);have b4:=b7.nlen;unfold maxLen at b4;have Y:=n0I_at b6;clear b6 b7;rw[Nat.add_zero]at c0;have c9:=Zo c0;rw[Y]at y f;by_cases hz:r0.n=0
 ·obtain rfl:E=8:=y.out (by rw[Gv hz];rfl)
  have t3:((r0.n:Int) == 0)=true:=by simp[hz]
  have b3:decide (r0.n=0)=true:=by simpa using hz
  clear y f;replace h:=Za h;replace Y:=Za Y;replace hz:=Za hz;go_enter Tryz.func54,Tryz.ntmps54;go_wp2_with fail;refine(hC.out _ (by first|exact Qa _ _|exact Zf Qa _ _ _)).mono ?_;rintro e w1 ⟨rfl,I⟩;have u:Below w.heap.size w w1:=by first|exact I|exact(Qa _ _).trans (I.mono (Qa _ _).size)|exact(Zf (Qa _ _) _).trans (I.mono (Qa _ _).size)
  clear I;have k1:=Zb u c0;go_wp2_with fail;go_ret;exact⟨rfl,by first|exact u|exact Zf u _⟩
 have t3:((r0.n:Int) == 0)=false:=by simpa using hz
 have b3:decide (r0.n=0)=false:=by simpa using hz
 rw[b3]at y f;replace h:=Za h;replace hl:=Za hl;replace a6:=Za a6;replace a5:=Za a5;replace Y:=Za Y;replace hz:=Za hz;by_cases a0:k=n
 case neg =>
  have t4:((k:Int) == (n:Int))=false:=beq_eq_false_iff_ne.2 (by omega);have c5:((k:Int) != (n:Int))=true:=by rw[bne,t4];rfl
  have a7:decide (k=n)=false:=by simpa using a0
  obtain rfl:E=8:=y.out (by rw[a7];rfl);clear y f;replace a0:=Za a0;go_enter Tryz.func54,Tryz.ntmps54;go_wp2_with fail;refine(hC.out _ (by first|exact Qa _ _|exact Zf Qa _ _ _)).mono ?_;rintro e w1 ⟨rfl,I⟩;have u:Below w.heap.size w w1:=by first|exact I|exact(Qa _ _).trans (I.mono (Qa _ _).size)|exact(Zf (Qa _ _) _).trans (I.mono (Qa _ _).size)
  clear I;have k1:=Zb u c0;go_wp2_with fail;go_ret;exact⟨rfl,by first|exact u|exact Zf u _⟩
 have t4:((k:Int) == (n:Int))=true:=beq_iff_eq.2 (by omega);have c5:((k:Int) != (n:Int))=false:=by rw[bne,t4];rfl
 have a7:decide (k=n)=true:=by simpa using a0
 rw[Yg,QK,a7,QK]at y f;replace a0:=Za a0;by_cases a1:m=n
 case neg =>
  have t5:((m:Int) == (n:Int))=false:=beq_eq_false_iff_ne.2 (by omega);have c2:((m:Int) != (n:Int))=true:=by rw[bne,t5];rfl
  have a9:decide (m=n)=false:=by simpa using a1
  obtain rfl:E=8:=y.out (by rw[a9];rfl);clear y f;replace a1:=Za a1;go_enter Tryz.func54,Tryz.ntmps54;go_wp2_with fail;refine(hC.out _ (by first|exact Qa _ _|exact Zf Qa _ _ _)).mono ?_;rintro e w1 ⟨rfl,I⟩;have u:Below w.heap.size w w1:=by first|exact I|exact(Qa _ _).trans (I.mono (Qa _ _).size)|exact(Zf (Qa _ _) _).trans (I.mono (Qa _ _).size)
  clear I;have k1:=Zb u c0;go_wp2_with fail;go_ret;exact⟨rfl,by first|exact u|exact Zf u _⟩
 have t5:((m:Int) == (n:Int))=true:=beq_iff_eq.2 (by omega);have c2:((m:Int) != (n:Int))=false:=by rw[bne,t5];rfl
 have a9:decide (m=n)=true:=by simpa using a1
 rw[a9,QK]at y f;replace a1:=Za a1;obtain⟨xw,b2⟩:=Gz (Zik 1 ws);have hW:=Za (λW1 (hb:Below w.heap.size w W1)=>Zg1 C k e0 ws 1 W1 (hw.below hb) xw b2);rw[b2]at y f;clear b2 hw;cases xw
 case true =>
  obtain rfl:E=8:=y.out rfl;clear y f;go_enter Tryz.func54,Tryz.ntmps54;go_wp2_with fail;refine(hC.out _ (by first|exact Qa _ _|exact Zf Qa _ _ _)).mono ?_;rintro e w1 ⟨rfl,I⟩;have u:Below w.heap.size w w1:=by first|exact I|exact(Qa _ _).trans (I.mono (Qa _ _).size)|exact(Zf (Qa _ _) _).trans (I.mono (Qa _ _).size)
  clear I;have k1:=Zb u c0;go_wp2_with fail;refine(hW.out _ (by first|exact u|exact Zf u _)).mono ?_;rintro e w2 ⟨rfl,O⟩;have J:Below w.heap.size w w2:=by first|exact O|exact(u).trans (O.mono (u).size)|exact(Zf (u) _).trans (O.mono (u).size)
  clear O;have k2:=Zb J c0;go_wp2_with fail;go_ret;exact⟨rfl,by first|exact J|exact Zf J _⟩
 rw[Yg,QK]at y f;obtain⟨xr,b0⟩:=Gz (Zik (-1099511627776) rr);have hR:=Za (λW1 (hb:Below w.heap.size w W1)=>Zg1 B m d rr (-1099511627776) W1 (hr.below hb) xr b0);rw[b0]at y f;clear b0 hr;cases xr
 case true =>
  obtain rfl:E=8:=y.out rfl;clear y f;go_enter Tryz.func54,Tryz.ntmps54;go_wp2_with fail;refine(hC.out _ (by first|exact Qa _ _|exact Zf Qa _ _ _)).mono ?_;rintro e w1 ⟨rfl,I⟩;have u:Below w.heap.size w w1:=by first|exact I|exact(Qa _ _).trans (I.mono (Qa _ _).size)|exact(Zf (Qa _ _) _).trans (I.mono (Qa _ _).size)
  clear I;have k1:=Zb u c0;go_wp2_with fail;refine(hW.out _ (by first|exact u|exact Zf u _)).mono ?_;rintro e w2 ⟨rfl,O⟩;have J:Below w.heap.size w w2:=by first|exact O|exact(u).trans (O.mono (u).size)|exact(Zf (u) _).trans (O.mono (u).size)
  clear O;have k2:=Zb J c0;go_wp2_with fail;refine(hR.out _ (by first|exact J|exact Zf J _)).mono ?_;rintro e w3 ⟨rfl,U⟩;have V:Below w.heap.size w w3:=by first|exact U|exact(J).trans (U.mono (J).size)|exact(Zf (J) _).trans (U.mono (J).size)
  clear U;have k3:=Zb V c0;go_wp2_with fail;go_ret;exact⟨rfl,by first|exact V|exact Zf V _⟩
 rw[Yg,QK]at y f;go_enter Tryz.func54,Tryz.ntmps54;go_wp2_with fail;refine(hC.out _ (by first|exact Qa _ _|exact Zf Qa _ _ _)).mono ?_;rintro e w1 ⟨rfl,I⟩;have u:Below w.heap.size w w1:=by first|exact I|exact(Qa _ _).trans (I.mono (Qa _ _).size)|exact(Zf (Qa _ _) _).trans (I.mono (Qa _ _).size)
 clear I;have k1:=Zb u c0;go_wp2_with fail;refine(hW.out _ (by first|exact u|exact Zf u _)).mono ?_;rintro e w2 ⟨rfl,O⟩;have J:Below w.heap.size w w2:=by first|exact O|exact(u).trans (O.mono (u).size)|exact(Zf (u) _).trans (O.mono (u).size)
 clear O;have k2:=Zb J c0;go_wp2_with fail;refine(hR.out _ (by first|exact J|exact Zf J _)).mono ?_;rintro e w3 ⟨rfl,U⟩;have V:Below w.heap.size w w3:=by first|exact U|exact(J).trans (U.mono (J).size)|exact(Zf (J) _).trans (U.mono (J).size)
 clear U;have k3:=Zb V c0;go_wp2_with fail;clear hC hW hR u J k1 k2
 go_loopw [50] (λiv wr=>∃ i:Nat,i<=n/\iv=.int .i64 i/\Hid (∀ j e,j<i->rs[j]?=some e->Zqf r0.n e=true)/\Below w.heap.size w wr) (λiv _=>n-(intOf iv).toNat)
 case atStart=>exact⟨0,QC _,rfl,Za (λj e hj=>by omega),(by first|exact V|exact Zf V _)⟩
 case round =>
  clear k3 V;obtain⟨i,c7,rfl,a4,T⟩:=hrel;have k0:=Zb T c0;clear c0;by_cases hin:i<n
  case neg =>
   obtain rfl:n=i:=by omega
   have b8:decide ((n:Int)<(n:Int))=false:=by simp
   obtain rfl:E=0:=by
    refine f.out ?_;rw[Ql];intro e he;obtain⟨j,hj,c3⟩:=QP he;exact a4.out j e (by rw[hl.out]at hj;exact hj) (by rw[Qe hj,c3])
   clear y;go_wp2_with fail;go_ret;exact⟨rfl,T⟩
  have b8:decide ((i:Int)<(n:Int))=true:=Gv (by omega);obtain⟨g',o',r,hA,he,c1,hL⟩:=(h.out.below T).at_ hin;cases hA;have b5:=hL.nlen;unfold maxLen at b5
  have bad:Zqf r0.n r=false->E=8:=λhf=>y.out (by
   rw[List.all_eq_false];exact⟨r,QL he,by rw[hf];decide⟩)
  have good:Zqf r0.n r=true->Hid (∀ j e,j<i+1->rs[j]?=some e->Zqf r0.n e=true):=λhf=>Za (λj e' hj he'=>by
   rcases Qy j i with h'|h';exact a4.out j e' h' he'
   ·obtain rfl:j=i:=by omega
    rw[he]at he';cases he';exact hf)
  replace bad:=Za bad;replace good:=Za good;replace he:=Za he;clear y;by_cases hq:r.n=r0.n
  case neg =>
   have t6:((r.n:Int) == (r0.n:Int))=false:=beq_eq_false_iff_ne.2 (by omega);have t7:((r.n:Int) != (r0.n:Int))=true:=by rw[bne,t6];rfl
   have b1:decide (r.n=r0.n)=false:=by simpa using hq
   obtain rfl:E=8:=bad.out (by unfold Zqf;rw[b1];rfl);clear hL f;go_wp2_with fail;go_ret;exact⟨rfl,by first|exact T|exact Zf T _⟩
  have t6:((r.n:Int) == (r0.n:Int))=true:=beq_iff_eq.2 (by omega);have t7:((r.n:Int) != (r0.n:Int))=false:=by rw[bne,t6];rfl
  have b1:decide (r.n=r0.n)=true:=by simpa using hq
  obtain⟨x,hx⟩:=Gz (Zik (-1099511627776) r.l);have hC:=Za (λW1 (hb:Below wr.heap.size wr W1)=>Zg1 r.A r.n r.c r.l (-1099511627776) W1 (hL.below hb) x hx);replace hx:=Za hx;replace hq:=Za hq;clear hL;cases x
  ·have a8:=good.out (by unfold Zqf;rw[b1,hx.out];rfl)
   go_wp2_with fail;refine(hC.out _ (by first|exact Qa _ _|exact Zf (Qa _ _) _)).mono ?_;rintro e' w4 ⟨rfl,a2⟩;go_wp2_with fail
   go_roundw
   case rel=>exact⟨i+1,by omega,by go_num,a8,(by first|exact T.trans (a2.mono T.size)|exact(Zf T _).trans (a2.mono T.size))⟩
   case measure=>simp[intOf];omega
  ·obtain rfl:E=8:=bad.out (by unfold Zqf;rw[hx.out];simp)
   clear f;go_wp2_with fail;refine(hC.out _ (by first|exact Qa _ _|exact Zf (Qa _ _) _)).mono ?_;rintro e' w4 ⟨rfl,a2⟩;go_wp2_with fail;go_ret;exact⟨rfl,(by first|exact T.trans (a2.mono T.size)|exact(Zf T _).trans (a2.mono T.size))⟩
def PolyL(w:World)(A:Option Addr)(n c:Nat)(xs:List Int):Prop:=∃ es,WL w A n c es/\es.map WE.num=xs/\∀ e ∈ es,e.ok=true
theorem WE.wd{w:World}{e:WE}(h:Lim w e.A e.n e.c e.l)(hk:e.ok=true):Wd w e.neg e.A e.n e.c e.num:=Wd.of_ok h hk
def Zam:List WE->List Value
 | []=>[]
 | e::l=>.bool e.neg :: .slice e.A e.n e.c::Zam l
def Zbt(es:List WE):Array Value:=(Zam es).toArray
theorem Za8(es:List WE):(Zam es).length=es.length*2:=by
 induction es with
 | nil=>rfl
 | cons e l ih=>simp only[Zam,QB,ih];omega
theorem Zm6{es:List WE}{i:Nat}{e:WE}(h:es[i]?=some e):(Zam es)[i*2]?=some (.bool e.neg)/\(Zam es)[i*2+1]?=some (.slice e.A e.n e.c):=by
 induction es generalizing i with
 | nil=>simp at h
 | cons a l ih =>
  cases i with
  | zero=>simp at h;subst h;exact⟨rfl,rfl⟩
  | succ i =>
   have:=ih (i:=i) (by simpa using h);rw[show (i+1)*2=i*2+1+1 by omega];simpa [Zam]using this
theorem Zt4{es:List WE}{i:Nat}(e:WE)(h:i<es.length):((Zam es).set (i*2) (.bool e.neg)).set (i*2+1) (.slice e.A e.n e.c)=Zam (es.set i e):=by
 induction es generalizing i with
 | nil=>simp at h
 | cons a l ih =>
  cases i with
  | zero=>rfl
  | succ i =>
   have:=ih (i:=i) (by simpa using h);rw[show (i+1)*2=i*2+1+1 by omega];simp only[Zam,Yj,this]
theorem Zn1(es:List WE):∀ (i x:Nat),(Zam es)[i]?≠some (limb x):=by
 induction es with
 | nil=>intro i x;simp[Zam]
 | cons a l ih =>
  intro i x
  match i with
  | 0=>simp[Zam]
  | 1=>simp[Zam]
  | i+2=>simpa [Zam]using ih i x
theorem Zjg{es:List WE}{i:Nat}{e:WE}(h:es[i]?=some e):(Zbt es)[i*2]?=some (.bool e.neg)/\(Zbt es)[i*2+1]?=some (.slice e.A e.n e.c):=by
 simpa [Zbt]using Zm6 h
theorem Zs8{es:List WE}{i:Nat}(e:WE)(h:i<es.length):((Zbt es).setIfInBounds (i*2) (.bool e.neg)).setIfInBounds (i*2+1) (.slice e.A e.n e.c)=Zbt (es.set i e):=by
 unfold Zbt;rw[<- Zt4 e h];simp
theorem Zdf(es:List WE):NoLimb (Zbt es):=λi x=>by simpa [Zbt]using Zn1 es i x
theorem Zhd(es:List WE)(i:Nat)(b:Bool):NoLimb ((Zbt es).setIfInBounds i (.bool b)):=λj x=>by
 rw[Qz]
 split
 ·split <;> simp
 exact Zdf es j x
def POwn(t:TypeId)(w:World)(g:Nat)(xs:List Int):Prop:=
 ∃ es:List WE,Blk w g t (Zbt es)/\(∀ e ∈ es,Lim w e.A e.n e.c e.l/\e.ok=true)/\es.map WE.num=xs
section
variable{t:TypeId}{w w':World}{g:Nat}{xs:List Int}
theorem POwn.below(h:POwn t w g xs)(hb:Below w.heap.size w w'):POwn t w' g xs:=by
 obtain⟨es,h1,h2,h3⟩:=h;exact⟨es,Zc hb h1,λe he=>⟨(h2 e he).1.below hb,(h2 e he).2⟩,h3⟩
theorem POwn.lt(h:POwn t w g xs):g<w.heap.size:=by obtain⟨es,h1,_⟩:=h;exact h1.lt
theorem POwn.frozen(h:POwn t w g xs)(i:Nat):w.frozen? ⟨g,i,none⟩=false:=by obtain⟨es,h1,_⟩:=h;exact h1.frozen i
theorem POwn.at_(h:POwn t w g xs){i:Nat}(hi:i<xs.length):∃ neg A n c,w.cell? ⟨g,i*2,none⟩=some (.bool neg)/\w.cell? ⟨g,i*2+1,none⟩=some (.slice A n c)/\Wd w neg A n c (xs[i]?.getD 0):=by
 obtain⟨es,h1,h2,rfl⟩:=h;have hl:i<es.length:=by simpa using hi
 have he:=Qe hl;have hc:=Zjg he;have hm:=h2 es[i] (QY hl);refine⟨es[i].neg,es[i].A,es[i].n,es[i].c,by rw[h1.cell];exact hc.1,by rw[h1.cell];exact hc.2,?_⟩;rw[Qi,he];exact WE.wd hm.1 hm.2
theorem POwn.set_(h:POwn t w g xs){i:Nat}(hi:i<xs.length){neg:Bool}{A:Option Addr}{n c:Nat}{z:Int}(hz:Wd w neg A n c z) :
    POwn t ((w.setCell ⟨g,i*2,none⟩ (.bool neg)).setCell ⟨g,i*2+1,none⟩ (.slice A n c)) g (xs.set i z):=by
 obtain⟨es,h1,h2,rfl⟩:=h;have hl:i<es.length:=by simpa using hi
 have f:Blk (w.setCell ⟨g,i*2,none⟩ (.bool neg)) g t ((Zbt es).setIfInBounds (i*2) (.bool neg)):=h1.set_ _ _;have o:=f.set_ (i*2+1) (.slice A n c);have hs:=Zs8 (es:=es) (i:=i) ⟨neg,A,n,c,digits z.natAbs⟩ hl;dsimp only at hs;rw[hs]at o;have keep:∀ (A':Option Addr) (n' c':Nat) (l:List Nat),Lim w A' n' c' l->Lim ((w.setCell ⟨g,i*2,none⟩ (.bool neg)).setCell ⟨g,i*2+1,none⟩ (.slice A n c)) A' n' c' l:=λ_ _ _ _ h=>(h.set_box h1 (Zdf es) _ _).set_box f (Zhd _ _ _) _ _;refine⟨_,o,λe he=>?_,?_⟩
 ·rcases QW he with he|rfl
  exact⟨keep _ _ _ _ (h2 e he).1,(h2 e he).2⟩;exact⟨keep _ _ _ _ hz.2.2,hz.ok⟩
 rw[Yk];congr 1;exact hz.sgEq
end
def Zco:WE:=⟨false,none,0,0,[]⟩
theorem Zk5(n:Nat):Zam (Qf n Zco)=(madeCells #[.bool false,.slice none 0 0] (n*2)).toList:=by
 apply QU;intro i
 have hm:(madeCells #[.bool false,.slice none 0 0] (n*2)).toList[i]?=if i<n*2 then some ((#[Value.bool false,Value.slice none 0 0])[i%2]!)else none:=by
  unfold madeCells;by_cases h:i<n*2;simp[h];simp[h]
 rw[hm];by_cases h:i<n*2
 ·rw[Gx h]
  have he:(Qf n Zco)[i/2]?=some Zco:=by rw[QH,Gx (by omega)]
  have hc:=Zm6 he;rcases QT i with h2|h2;rw[show i/2*2=i by omega]at hc;rw[hc.1,h2];rfl;rw[show i/2*2+1=i by omega]at hc;rw[hc.2,h2];rfl
 ·rw[Gw h]
  exact Qk (by rw[Za8];simp;omega)
theorem makeW{P:Program}(t e:TypeId){i:TypeInfo}(ht:P.underlying t=some (.slice e))(hi:P.info? e=some i)(hz:i.zero=some (.agg #[.bool false,.slice none 0 0]))(hs:i.size=2)(hb:i.bytes=32)
    (x:Int) (n:Nat) (hx:x=n) (hn:n<=1000000000000) (W:World) :
    (Instr.makeSlice t (.int .i64 x) (.int .i64 x)).run P W=.ok (.slice (some ⟨W.heap.size,0,none⟩) n n) (W.alloc (.cells (Zbt (Qf n Zco)) e)):=by
 subst hx;have hr:=run_make (P:=P) W t e i _ ht hi hz .i64 .i64 n n (by omega) (by omega) (by rw[hb];omega) (by omega);simp only[Int.toNat_natCast]at hr;rw[hr]
 have:madeCells (Value.agg #[.bool false,.slice none 0 0]).cells (n*i.size)=Zbt (Qf n Zco):=by
  rw[hs];apply Array.toList_inj.1;unfold Zbt;rw[Zk5];rfl
 rw[this]
theorem POwn.new(t:TypeId)(w:World)(n:Nat):POwn t (w.alloc (.cells (Zbt (Qf n Zco)) t)) w.heap.size (Qf n 0):=
 ⟨Qf n Zco,Blk.new _ _ _,λe he=>by rw[(List.mem_replicate.1 he).2];exact⟨Lim.nil _ _ _ (QC _),rfl⟩,by simp[Zco,WE.num,sg,val]⟩
structure Kept (G:Nat->Prop) (w w':World):Prop where
 os:w'.os=w.os
 tape:w'.tape=w.tape
 output:w'.output=w.output
 size:w.heap.size<=w'.heap.size
 block:∀ k,k<w.heap.size->¬ G k->w'.heap[k]?=w.heap[k]?
section
variable{G:Nat->Prop}{w w' w'':World}
theorem Kept.refl(G:Nat->Prop)(w:World):Kept G w w:=⟨rfl,rfl,rfl,Qg _,λ_ _ _=>rfl⟩
theorem Kept.trans(h:Kept G w w')(k:Kept G w' w''):Kept G w w'':=
 ⟨k.os.trans h.os,k.tape.trans h.tape,k.output.trans h.output,Qo h.size k.size,λi hi hg=>(k.block i (QS hi h.size) hg).trans (h.block i hi hg)⟩
theorem Kept.of_below(h:Below w.heap.size w w'):Kept G w w':=⟨h.os,h.tape,h.output,h.size,λk hk _=>h.block k hk⟩
theorem Kept.below(h:Kept G w w')(k:Below w'.heap.size w' w''):Kept G w w'':=h.trans (Kept.of_below k)
theorem Kept.drewN(h:Kept G w w')(n:Nat):Kept G w (w'.drewN n):=⟨h.os,h.tape,h.output,h.size,h.block⟩
theorem Kept.set_(h:Kept G w w'){p:Addr}(hp:G p.block \/ w.heap.size<=p.block)(u:Value):Kept G w (w'.setCell p u):=
 ⟨h.os,h.tape,h.output,by simp[World.setCell];exact h.size,λk hk hg=>(Below.heap_setCell w' p u k (by rcases hp with hp|hp;exact λe=>hg (e▸hp);omega)).trans (h.block k hk hg)⟩
theorem Kept.blk(h:Kept G w w'){g:Nat}{t:TypeId}{cs:Array Value}(hb:Blk w g t cs)(hg:¬ G g):Blk w' g t cs:=(h.block g hb.lt hg).trans hb
theorem Kept.to_below{B:Nat}(h:Kept G w w')(hG:∀ k,G k->B<=k)(hB:B<=w.heap.size):Below B w w':=
 ⟨h.os,h.tape,h.output,h.size,λk hk=>h.block k (QS hk hB) (λhg=>by have:=hG k hg;omega)⟩
theorem Kept.mono{G':Nat->Prop}(h:Kept G w w')(hG:∀ k,k<w.heap.size->G k->G' k):Kept G' w w':=⟨h.os,h.tape,h.output,h.size,λk hk hg=>h.block k hk (λh=>hg (hG k hk h))⟩
theorem Kept.lim(h:Kept G w w'){A:Option Addr}{n c:Nat}{l:List Nat}(hl:Lim w A n c l)(hG:∀ k,G k->∃ t cs,Blk w k t cs/\NoLimb cs):Lim w' A n c l:=
 ⟨hl.1,hl.2.1,hl.2.2.1,hl.2.2.2.1,λhn=>by
  obtain⟨b,o,e,hc⟩:=hl.2.2.2.2 hn;refine⟨b,o,e,λk hk=>?_⟩;have h0:=hc k hk;refine(QM (w:=w) (h.block b (Zo h0) (λhg=>?_))).trans h0;obtain⟨t,cs,h1,h2⟩:=hG b hg;have h3:=h0;rw[h1.cell]at h3;exact h2 _ _ h3⟩
theorem Kept.wd(h:Kept G w w'){neg:Bool}{A:Option Addr}{n c:Nat}{z:Int}(hl:Wd w neg A n c z)(hG:∀ k,G k->∃ t cs,Blk w k t cs/\NoLimb cs):Wd w' neg A n c z:=⟨hl.1,hl.2.1,h.lim hl.2.2 hG⟩
end
section
variable{t:TypeId}{w:World}{g:Nat}{xs zs:List Int}
theorem POwn.box(h:POwn t w g xs):∃ t cs,Blk w g t cs/\NoLimb cs:=by
 obtain⟨es,h1,-,-⟩:=h;exact⟨t,_,h1,Zdf es⟩
theorem POwn.other{t':TypeId}{g':Nat}{ys:List Int}(h:POwn t w g xs)(h':POwn t' w g' ys)(hne:g≠g')(i:Nat)(b:Bool)(A:Option Addr)(n c:Nat) :
    POwn t ((w.setCell ⟨g',i*2,none⟩ (.bool b)).setCell ⟨g',i*2+1,none⟩ (.slice A n c)) g xs:=by
 obtain⟨es,h1,h2,h3⟩:=h;obtain⟨fs,k1,-,-⟩:=h';refine⟨es,(h1.far hne _).far hne _,λe he=>⟨?_,(h2 e he).2⟩,h3⟩;exact((h2 e he).1.set_box k1 (Zdf fs) _ _).set_box (k1.set_ (i*2) (.bool b)) (Zhd _ _ _) _ _
end
theorem Zt2{es:List FE}{i:Nat}(e:FE)(h:i<es.length):((((Zp es).set (i*4) (.bool e.na)).set (i*4+1) (.slice e.A e.n e.c)).set (i*4+2) (.bool e.nb)).set (i*4+3) (.slice e.B e.m e.d)=Zp (es.set i e):=by
 induction es generalizing i with
 | nil=>simp at h
 | cons a l ih =>
  cases i with
  | zero=>rfl
  | succ i =>
   have:=ih (i:=i) (by simpa using h);rw[show (i+1)*4=i*4+1+1+1+1 by omega];simp only[Zp,Yj,this]
theorem Zk1{es:List FE}{i:Nat}(e:FE)(h:i<es.length):((((Zz es).setIfInBounds (i*4) (.bool e.na)).setIfInBounds (i*4+1) (.slice e.A e.n e.c)).setIfInBounds (i*4+2) (.bool e.nb)).setIfInBounds (i*4+3) (.slice e.B e.m e.d)=Zz (es.set i e):=by
 unfold Zz;rw[<- Zt2 e h];simp
theorem Zgj{cs:Array Value}(h:NoLimb cs)(i:Nat){v:Value}(hv:∀ x,v≠limb x):NoLimb (cs.setIfInBounds i v):=λj x=>by
 rw[Qz]
 split
 ·split
  simpa using hv x;simp
 exact h j x
def Zj3(w:World)(g i:Nat)(na:Bool)(A:Option Addr)(n c:Nat)(nb:Bool)(B:Option Addr)(m d:Nat):World:=
 (((w.setCell ⟨g,i*4,none⟩ (.bool na)).setCell ⟨g,i*4+1,none⟩ (.slice A n c)).setCell ⟨g,i*4+2,none⟩ (.bool nb)).setCell ⟨g,i*4+3,none⟩ (.slice B m d)
section
variable{w:World}{g i:Nat}{na:Bool}{A:Option Addr}{n c:Nat}{nb:Bool}{B:Option Addr}{m d:Nat}
theorem Zgc{A':Option Addr}{n' c':Nat}{l:List Nat}{t:TypeId}{cs:Array Value}(h:Lim w A' n' c' l)(hb:Blk w g t cs)(hcs:NoLimb cs):Lim (Zj3 w g i na A n c nb B m d) A' n' c' l:=by
 have h1:=hb.set_ (i*4) (.bool na);have l1:=Zgj hcs (i*4) (v:=.bool na) (λx=>by simp);have h2:=h1.set_ (i*4+1) (.slice A n c);have l2:=Zgj l1 (i*4+1) (v:=.slice A n c) (λx=>by simp);have h3:=h2.set_ (i*4+2) (.bool nb);have l3:=Zgj l2 (i*4+2) (v:=.bool nb) (λx=>by simp);exact(((h.set_box hb hcs _ _).set_box h1 l1 _ _).set_box h2 l2 _ _).set_box h3 l3 _ _
theorem Zlu{na':Bool}{A':Option Addr}{n' c':Nat}{nb':Bool}{B':Option Addr}{m' d':Nat}{r:Rat}{t:TypeId}{cs:Array Value}(h:Fr w na' A' n' c' nb' B' m' d' r)(hb:Blk w g t cs)(hcs:NoLimb cs):Fr (Zj3 w g i na A n c nb B m d) na' A' n' c' nb' B' m' d' r:=
 ⟨⟨h.1.1,h.1.2.1,Zgc h.1.2.2 hb hcs⟩,⟨h.2.1,h.2.2.1,Zgc h.2.2.2 hb hcs⟩⟩
theorem Zju{g':Nat}{t:TypeId}{cs:Array Value}(h:Blk w g' t cs)(hg:g'≠g):Blk (Zj3 w g i na A n c nb B m d) g' t cs:=(((h.far hg _).far hg _).far hg _).far hg _
theorem Zi8{b:Nat}{w0:World}(h:Below b w0 w)(hg:b<=g):Below b w0 (Zj3 w g i na A n c nb B m d):=
 (((h.setCell (p:=⟨g,i*4,none⟩) hg _).setCell (p:=⟨g,i*4+1,none⟩) hg _).setCell (p:=⟨g,i*4+2,none⟩) hg _).setCell (p:=⟨g,i*4+3,none⟩) hg _
end
def FRaw(t:TypeId)(w:World)(g n:Nat):Prop:=∃ es:List FE,Blk w g t (Zz es)/\n<=es.length
def FOwn(t:TypeId)(w:World)(g:Nat)(qs:List Rat):Prop:=∃ es zs:List FE,Blk w g t (Zz (es++zs))/\(∀ e ∈ es,e.in_ w)/\es.map FE.q=qs
section
variable{t:TypeId}{w w':World}{g:Nat}{qs:List Rat}
theorem FRaw.lt{n:Nat}(h:FRaw t w g n):g<w.heap.size:=by obtain⟨es,h1,h2⟩:=h;exact h1.lt
theorem FRaw.box{n:Nat}(h:FRaw t w g n):∃ t cs,Blk w g t cs/\NoLimb cs:=by obtain⟨es,h1,h2⟩:=h;exact⟨t,_,h1,Zcl es⟩
theorem FRaw.cells{n i:Nat}(h:FRaw t w g n)(hi:i<n):∃ na A k c nb B m d,w.cell? ⟨g,i*4,none⟩=some (.bool na)/\w.cell? ⟨g,i*4+1,none⟩=some (.slice A k c)/\w.cell? ⟨g,i*4+2,none⟩=some (.bool nb)/\w.cell? ⟨g,i*4+3,none⟩=some (.slice B m d):=by
 obtain⟨es,h1,hn⟩:=h;have hc:=Zfs (Qe (show i<es.length by omega));exact⟨_,_,_,_,_,_,_,_,by rw[h1.cell];exact hc.1,by rw[h1.cell];exact hc.2.1,by rw[h1.cell];exact hc.2.2.1,by rw[h1.cell];exact hc.2.2.2⟩
theorem FRaw.frozen{n:Nat}(h:FRaw t w g n)(i:Nat):w.frozen? ⟨g,i,none⟩=false:=by obtain⟨es,h1,-⟩:=h;exact h1.frozen i
theorem FOwn.raw(h:FOwn t w g qs):FRaw t w g qs.length:=by obtain⟨es,zs,h1,h2,rfl⟩:=h;exact⟨es++zs,h1,by simp⟩
theorem FOwn.below(h:FOwn t w g qs)(hb:Below w.heap.size w w'):FOwn t w' g qs:=by
 obtain⟨es,zs,h1,h2,h3⟩:=h;exact⟨es,zs,Zc hb h1,λe he=>(h2 e he).below hb,h3⟩
theorem FOwn.lt(h:FOwn t w g qs):g<w.heap.size:=h.raw.lt
theorem FOwn.box(h:FOwn t w g qs):∃ t cs,Blk w g t cs/\NoLimb cs:=h.raw.box
theorem FOwn.frozen(h:FOwn t w g qs)(i:Nat):w.frozen? ⟨g,i,none⟩=false:=h.raw.frozen i
theorem FOwn.at_(h:FOwn t w g qs){i:Nat}(hi:i<qs.length):∃ na A k c nb B m d,w.cell? ⟨g,i*4,none⟩=some (.bool na)/\w.cell? ⟨g,i*4+1,none⟩=some (.slice A k c)/\w.cell? ⟨g,i*4+2,none⟩=some (.bool nb)/\w.cell? ⟨g,i*4+3,none⟩=some (.slice B m d)/\Fr w na A k c nb B m d (qs[i]?.getD 0):=by
 obtain⟨es,zs,h1,h2,rfl⟩:=h;have hl:i<es.length:=by simpa using hi
 have he:=Qe hl;have hc:=Zfs (es:=es++zs) (i:=i) (e:=es[i]) (by rw[Qu hl];exact he);refine⟨_,_,_,_,_,_,_,_,by rw[h1.cell];exact hc.1,by rw[h1.cell];exact hc.2.1,by rw[h1.cell];exact hc.2.2.1,by rw[h1.cell];exact hc.2.2.2,?_⟩;rw[Qi,he];exact h2 _ (QY hl)
theorem FOwn.set_(h:FOwn t w g qs){i:Nat}(hi:i<qs.length){na:Bool}{A:Option Addr}{k c:Nat}{nb:Bool}{B:Option Addr}{m d:Nat}{r:Rat}(hr:Fr w na A k c nb B m d r):FOwn t (Zj3 w g i na A k c nb B m d) g (qs.set i r):=by
 obtain⟨es,zs,h1,h2,rfl⟩:=h;have hl:i<es.length:=by simpa using hi
 have h3:=(((h1.set_ (i*4) (.bool na)).set_ (i*4+1) (.slice A k c)).set_ (i*4+2) (.bool nb)).set_ (i*4+3) (.slice B m d);have hs:=Zk1 (es:=es++zs) (i:=i) ⟨na,A,k,c,nb,B,m,d,r⟩ (by rw[Qt];omega);dsimp only at hs;rw[hs,List.set_append_left _ _ hl]at h3;refine⟨_,zs,h3,λe he=>?_,by rw[Yk]⟩;rcases QW he with he|rfl;exact Zlu (h2 e he) h1 (Zcl _);exact Zlu hr h1 (Zcl _)
theorem FOwn.other{g' i:Nat}{na:Bool}{A:Option Addr}{k c:Nat}{nb:Bool}{B:Option Addr}{m d:Nat}(h:FOwn t w g qs)(hne:g≠g')(hb:∃ t cs,Blk w g' t cs/\NoLimb cs):FOwn t (Zj3 w g' i na A k c nb B m d) g qs:=by
 obtain⟨es,zs,h1,h2,h3⟩:=h;obtain⟨t',cs,hb,f⟩:=hb;exact⟨es,zs,Zju h1 hne,λe he=>Zlu (h2 e he) hb f,h3⟩
theorem FOwn.fl(h:FOwn t w g qs){c:Nat}(hc:qs.length<=c)(hm:c<=maxLen):FL w (some ⟨g,0,none⟩) qs.length c qs:=by
 obtain⟨es,zs,h1,h2,rfl⟩:=h;rw[QE]at hc ⊢;refine⟨es,rfl,hc,hm,h2,rfl,λ_=>⟨g,0,rfl,λk e he=>?_⟩⟩;have hk:k<es.length:=(List.getElem?_eq_some_iff.1 he).1;have hc:=Zfs (es:=es++zs) (i:=k) (e:=e) (by rw[Qu hk];exact he);simp only[QZ,h1.cell];exact hc
theorem OwnF.fown{base:Nat}{v:Value}(h:OwnF t w base v qs):(v=.slice none 0 0/\qs=[]) \/ ∃ g c,v=.slice (some ⟨g,0,none⟩) qs.length c/\base<=g/\qs.length<=c/\c<=maxLen/\FOwn t w g qs:=by
 obtain⟨es,h1,h2,rfl⟩:=h;rcases h1 with ⟨rfl,rfl⟩|⟨g,sp,rfl,h4,h5,h6⟩;exact .inl ⟨rfl,rfl⟩;exact .inr ⟨g,_,by rw[QE],h4,by rw[QE];omega,h5,es,Qf sp Zaw,h6,h2,rfl⟩
end
def cn(f1 f2:Nat)(l:Array Bool)(s1 s2:Bool):Array Bool:=
 let l:=if s1 then l.setIfInBounds f1 true else l
 if s2 then l.setIfInBounds f2 true else l
theorem Z0m{t:Array Value}{d:Nat}{u:Value}(h:t[d]?=some u):t.setIfInBounds d u=t:=by
 apply Array.ext;simp
 ·intro i h1 h2
  rw[Array.getElem_setIfInBounds (by simpa using h1)]
  split
  ·rename_i e
   subst e;rw[Qm h2]at h;injection h with h
   exact h.symm
  rfl
section
variable{P:Program}{ops:Array Oper}{Q:Exit->Act->World->Prop}{md:Region.Mode}{L:List Nat}{S:World->Prop}{f1 f2 d1 d2 F:Nat}{t1 t2:TypeId}{z1 z2:Array Value}
theorem Zl{i:Nat}{o:Oper}{K:Act->World->Prop}{a:Act}{w:World}(ho:ops[i]?=some o)
    (h:∀ K':Act->World->Prop,Shut (∀ a w,K a w->K' a w)->if Region.wanted o (yielded ops a.tmps)=true then Oper.wp P o a w K' Q else K' (a.put o.dst undef) w):wpOp P ops Q i K a w:=
 wpOp_step ho (λK' hK=>h K' hK)
end
def Zbb(md:Region.Mode)(ops:Array Oper)(i:Nat):List Nat:=match ops[i]? with|some o=>(o.after.toList.filter (λe=>Region.binds md e)).map (·.on)|none=>[]
def Zbk(ops:Array Oper)(i:Nat):Nat:=match ops[i]? with|some o=>o.dst.getD 0|none=>0
def Zbr(R:List Nat)(l:Array Bool):Array Bool:=R.foldl (λl i=>l.setIfInBounds i true) l
def clo(md:Region.Mode)(ops:Array Oper):List Nat->List Nat->List Nat
 | [],c=>c
 | r::rs,c=>clo md ops rs (if c.contains r then Zbb md ops r++c else c)
def Zb8:List Nat->Bool
 | []=>true
 | x::l=>!l.contains x && Zb8 l
def Zap:List Nat->Act->(Nat->Value)->Act
 | [],a,_=>a
 | d::ds,a,ν=>Zap ds (a.put (some d) (ν d)) ν
def upd(ν:Nat->Value)(d:Nat)(v:Value):Nat->Value:=λk=>if k=d then v else ν k
theorem Zyv{a:Act}{d e:Nat}{u v:Value}(h:d≠e):(a.put (some d) u).put (some e) v=(a.put (some e) v).put (some d) u:=by
 simp only[Act.put];rw[QG _ _ h]
theorem Zv8{ds:List Nat}{a:Act}{ν:Nat->Value}{d:Nat}{v:Value}(h:d ∉ ds):Zap ds (a.put (some d) v) ν=(Zap ds a ν).put (some d) v:=by
 induction ds generalizing a with
 | nil=>rfl
 | cons e ds ih =>
  have h1:d≠e:=λh'=>h (h'▸Qd ..);show Zap ds ((a.put (some d) v).put (some e) (ν e)) ν=_;rw[Zyv h1,ih (λh'=>h (Qb _ h'))];rfl
theorem Znt{ds:List Nat}{a:Act}{ν:Nat->Value}{d:Nat}{v:Value}(h:d ∉ ds):Zap ds a (upd ν d v)=Zap ds a ν:=by
 induction ds generalizing a with
 | nil=>rfl
 | cons e ds ih =>
  have h1:e≠d:=λh'=>h (h'▸Qd ..);show Zap ds (a.put (some e) (upd ν d v e)) (upd ν d v)=Zap ds (a.put (some e) (ν e)) ν;rw[ih (λh'=>h (Qb _ h'))];simp only[upd,Gw h1]
theorem put_put{a:Act}{d:Nat}{u v:Value}:(a.put (some d) u).put (some d) v=a.put (some d) v:=by
 simp only[Act.put];rw[Array.setIfInBounds_setIfInBounds]
theorem Zb6{x:Nat}{l:List Nat}(h:Zb8 (x::l)=true):x ∉ l/\Zb8 l=true:=by
 simp only[Zb8,Qh,Qq]at h;exact⟨λhx=>by rw[List.contains_iff_mem.2 hx]at h;exact absurd h.1 (by simp),h.2⟩
theorem Zkz{ds:List Nat}{a:Act}{ν:Nat->Value}{d:Nat}{v:Value}(h:d ∈ ds)(hn:Zb8 ds=true):(Zap ds a ν).put (some d) v=Zap ds a (upd ν d v):=by
 induction ds generalizing a with
 | nil=>cases h
 | cons e ds ih =>
  obtain⟨h1,h2⟩:=Zb6 hn;show (Zap ds (a.put (some e) (ν e)) ν).put (some d) v=Zap ds (a.put (some e) (upd ν d v e)) (upd ν d v);by_cases hd:d=e
  ·subst hd
   rw[<- Zv8 h1,put_put,Znt h1];simp only[upd,if_true]
  ·rcases List.mem_cons.1 h with h'|h'
   exact absurd h' hd
   ·rw[ih h' h2]
    simp only[upd,Gw (Qx hd)]
theorem Zs0{ds:List Nat}{a:Act}:Zap ds a (λd=>a.tmps.getD d undef)=a:=by
 induction ds with
 | nil=>rfl
 | cons d ds ih =>
  show Zap ds (a.put (some d) (a.tmps.getD d undef)) _=a
  have:a.put (some d) (a.tmps.getD d undef)=a:=by
   cases a with
   | mk t df =>
    simp only[Act.put];congr 1;rcases Qy d t.size with h|h;exact Z0m (by rw[Qc,Qm h];rfl);exact Array.setIfInBounds_eq_of_size_le h
  rw[this];exact ih
theorem Zch(R:List Nat)(l:Array Bool)(k:Nat):(Zbr R l).getD k true=if k ∈ R then true else l.getD k true:=by
 unfold Zbr
 induction R generalizing l with
 | nil=>simp
 | cons r R ih =>
  rw[Yt,ih];by_cases h1:k ∈ R;rw[Gx h1,Gx (Qb _ h1)]
  ·rw[Gw h1]
   by_cases h2:k=r
   ·subst h2
    rw[Gx (Qd ..)];rw[Qc,Qz]
    split
    ·split <;> rfl
    rename_i h;exact absurd rfl h
   rw[Gw (λh=>by rcases List.mem_cons.1 h with h|h;exact h2 h;exact h1 h),Go.getD_set_ne true (Qx h2)]
theorem Zgt(R:List Nat)(l:Array Bool):(Zbr R l).size=l.size:=by
 unfold Zbr
 induction R generalizing l with
 | nil=>rfl
 | cons r R ih=>rw[Yt,ih];simp
theorem Zta{l m:Array Bool}(hs:l.size=m.size)(h:∀ k,l.getD k true=m.getD k true):l=m:=by
 apply Array.ext hs;intro i h1 h2;have:=h i;rw[Qc,Qc,Qm h1,Qm h2]at this;exact this
section
variable{P:Program}{ops:Array Oper}{Q:Exit->Act->World->Prop}{md:Region.Mode}{L:List Nat}{S:World->Prop}
theorem Zsu{l:Array Bool}{R:List Nat}(hd:∀ r ∈ R,l.getD r false=true->∀ p ∈ Zbb md ops r,l.getD p false=true) :
    ∀ (rs:List Nat) (c:List Nat),(∀ r ∈ rs,r ∈ R)->(∀ x ∈ c,l.getD x false=true)->∀ x ∈ clo md ops rs c,l.getD x false=true
 | [],c,_,hc,x,hx=>hc x hx
 | r::rs,c,hr,hc,x,hx=>by
  refine Zsu hd rs _ (λy hy=>hr y (Qb _ hy)) (λy hy=>?_) x hx
  split at hy
  ·rename_i h1
   rcases List.mem_append.1 hy with h2|h2;exact hd r (hr r (Qd ..)) (hc r (List.contains_iff_mem.1 h1)) y h2;exact hc y h2
  exact hc y hy
theorem Zez{l:Array Bool}{k:Nat}(h:l.getD k false=true):l.getD k true=true:=by
 rw[Qc]at h ⊢;cases hk:l[k]? with
 | none=>rfl
 | some b=>rw[hk]at h;exact h
theorem Za1{l:Array Bool}{k j:Nat}(h:l.getD k false=true):(l.setIfInBounds j true).getD k false=true:=by
 by_cases hkj:j=k
 ·subst hkj
  rw[Qc,Qw];rw[Qc]at h
  split
  rfl;rename_i h1;rw[Qs (by omega)]at h;cases h
 rw[Go.getD_set_ne false hkj];exact h
theorem Zmg{i:Nat}{l:Array Bool}(h:i ∈ Region.ready md ops l):l.getD i true=false/\i<ops.size/\∀ p ∈ Zbb md ops i,l.getD p false=true:=by
 obtain⟨h1,o,ho,h2⟩:=mem_ready.1 h;refine⟨h1,(Array.getElem?_eq_some_iff.1 ho).1,λp hp=>?_⟩;unfold Zbb at hp;rw[ho]at hp;obtain⟨e,he,rfl⟩:=List.mem_map.1 hp;rw[Yu]at he;exact h2 e (by simpa using he.1) he.2
theorem Zht{i:Nat}{l:Array Bool}(h1:l.getD i true=false){o:Oper}(ho:ops[i]?=some o)(h:∀ p ∈ Zbb md ops i,l.getD p false=true):i ∈ Region.ready md ops l:=by
 refine mem_ready.2 ⟨h1,o,ho,λe he hb=>h _ ?_⟩;unfold Zbb;rw[ho];exact List.mem_map.2 ⟨e,List.mem_filter.2 ⟨by simpa using he,hb⟩,rfl⟩
def left(R:List Nat)(l:Array Bool):Nat:=(R.filter λr=>!l.getD r true).length
theorem Zmh{f:Nat->Nat}:∀ {R:List Nat},Zb8 (R.map f)=true->Zb8 R=true
 | [],_=>rfl
 | r::R,h=>by
  obtain⟨h1,h2⟩:=Zb6 (x:=f r) (l:=R.map f) h;simp only[Zb8,Qh,Qq];refine⟨?_,Zmh h2⟩;cases hc:R.contains r with
  | false=>rfl
  | true=>exact absurd (List.mem_map.2 ⟨r,List.contains_iff_mem.1 hc,rfl⟩) h1
theorem Zf4{f:Nat->Nat}:∀ {R:List Nat},Zb8 (R.map f)=true->∀ {r i:Nat},r ∈ R->i ∈ R->r≠i->f r≠f i
 | [],_,_,_,h,_,_=>by cases h
 | x::R,h,r,i,hr,hi,hne=>by
  obtain⟨h1,h2⟩:=Zb6 (x:=f x) (l:=R.map f) h;rcases List.mem_cons.1 hr with u|u
  ·rcases List.mem_cons.1 hi with o|o
   exact absurd (u.trans o.symm) hne;exact λe=>h1 (List.mem_map.2 ⟨i,o,by rw[<- e,u]⟩)
  ·rcases List.mem_cons.1 hi with o|o
   exact λe=>h1 (List.mem_map.2 ⟨r,u,by rw[e,o]⟩);exact Zf4 h2 u o hne
theorem Zwf{R:List Nat}{l:Array Bool}{i:Nat}(hi:i ∉ R):left R (l.setIfInBounds i true)=left R l:=by
 unfold left;congr 1;apply List.filter_congr;intro r hr;rw[Go.getD_set_ne true (λe:i=r=>hi (e▸hr))]
theorem Zl8{R:List Nat}{l:Array Bool}{i:Nat}(hn:Zb8 R=true)(hi:i ∈ R)(h:l.getD i true=false):left R (l.setIfInBounds i true)+1=left R l:=by
 have o:i<l.size:=by
  rcases Qy i l.size with h'|h';exact h';rw[Qc,Qs h']at h;cases h
 have e:(l.setIfInBounds i true).getD i true=true:=by
  rw[Qc,Qw,Gx o];rfl
 induction R with
 | nil=>cases hi
 | cons r R ih =>
  obtain⟨n1,n2⟩:=Zb6 hn;by_cases hr:i=r
  ·subst hr
   have:=Zwf (l:=l) n1;unfold left at this ⊢;rw[QI (by simp[e]),QJ (by simp[h]),this];rfl
  ·have f:i ∈ R:=by
     rcases List.mem_cons.1 hi with h'|h';exact absurd h' hr;exact h'
   have:=ih n2 f;unfold left at this ⊢;by_cases hb:l.getD r true=true;rw[QI (by rw[Go.getD_set_ne true hr];simp[hb]),QI (by simp[hb])];exact this;rw[QJ (by rw[Go.getD_set_ne true hr];simpa using hb),QJ (by simpa using hb),QB,QB,this]
theorem Zsc(R:List (Nat × Nat))(h:R.all (λp=>Zbk ops p.1 == p.2)=true):(R.map (·.1)).map (Zbk ops)=R.map (·.2):=by
 rw[List.map_map];apply List.map_congr_left;intro p hp;rw[Ql]at h;simpa using h p hp
end
section
variable{P:Program}{ops:Array Oper}{Q:Exit->Act->World->Prop}{md:Region.Mode}{L:List Nat}{S:World->Prop}
theorem Zkc{i:Nat}{oi:Oper}{v:Value}(hi:ops[i]?=some oi)(hsel:∀ (j:Nat) (o:Oper) cs b,ops[j]?=some o->o.op ≠ .select cs b)
    (hQ:∀ c a w,Q (.panic c) (a.put oi.dst v) w->Q (.panic c) a w) (hiL:L.contains i=false) :
    ∀ (fuel:Nat) (listed:Array Bool) (a:Act) (w:World),
     (∀ j oj,ops[j]?=some oj->j≠i->listed.getD j true=false->(∀ e ∈ oj.after,Region.binds md e=true->e.on≠i)->oi.apart ops oj=true) ->
     i ∈ Region.ready md ops listed->YieldsIf P ops (λ_=>True) oi v a->(Zcu L listed=true->S w) ->
     Zaa P md ops Q L S fuel (listed.setIfInBounds i true) (a.put oi.dst v) w->Zaa P md ops Q L S (fuel+1) listed a w:=by
 have f:i ∉ L:=λh=>by
  rw[List.contains_iff_mem.2 h]at hiL;cases hiL
 intro fuel
 induction fuel with
 | zero =>
  intro listed a w _ hr hy hS H;refine⟨λh=>(by rw[h]at hr;cases hr),λj hj=>?_⟩;by_cases hji:j=i;subst hji;exact hy.wpOp hi trivial ⟨λh=>hS (by rwa [Zc6 f]at h),H⟩
  ·have:=ready_mono hj hji
   rw[H.1]at this;cases this
 | succ fuel ih =>
  intro listed a w u hr hy hS H;refine⟨λh=>(by rw[h]at hr;cases hr),λj hj=>?_⟩;by_cases hji:j=i;subst hji;exact hy.wpOp hi trivial ⟨λh=>hS (by rwa [Zc6 f]at h),H⟩
  ·have h1:=H.2 j (ready_mono hj hji)
   obtain⟨C,oj,I,T⟩:=mem_ready.1 hj
   have J:∀ e ∈ oj.after,Region.binds md e=true->e.on≠i:=λe he hb heq=>by
    have h1:=T e he hb;have h0:=(mem_ready.1 hr).1;rw[heq]at h1;rcases Qy i listed.size with h'|h';simp[h']at h0 h1;rw[h0]at h1;cases h1;simp[Qs h']at h1
   have h2:=wpOp_putIf I (u j oj I hji C J) (λcs b=>hsel i oi cs b hi) (λcs b=>hsel j oj cs b I) hQ hy h1
   have y:∀ k ok,ops[k]?=some ok->k≠i->(listed.setIfInBounds j true).getD k true=false ->
       (∀ e ∈ ok.after,Region.binds md e=true->e.on≠i)->oi.apart ops ok=true:=λk ok hk hki hun hno=>by
    refine u k ok hk hki ?_ hno;by_cases hjk:j=k;subst hjk;exact C;rw[Go.getD_set_ne true hjk]at hun;exact hun
   refine wpOp_mono (λa' w' h3=>?_) h2
   have O:Zcu L (listed.setIfInBounds j true)=true->S w':=λh=>h3.2.1 (by
    rw[QG _ _ (Qx hji),Zc6 f];exact h)
   refine⟨O,ih (listed.setIfInBounds j true) a' w' y (ready_mono hr (Qx hji)) h3.1 O ?_⟩;rw[QG _ _ hji];exact h3.2.2
theorem Zi{i:Nat}{oi:Oper}{v:Value}{fuel:Nat}{listed:Array Bool}{a:Act}{w:World}(hi:ops[i]?=some oi)
    (hs:Region.noSelect ops=true) (hf:Region.free md ops listed i=true) (hr:(Region.ready md ops listed).contains i=true) (hL:L.contains i=false)
    (hy:YieldsIf P ops (λ_=>True) oi v a) (hS:Zcu L listed=true->S w)
    (h:Zaa P md ops (OnlyNormal Q) L S fuel (listed.setIfInBounds i true) (a.put oi.dst v) w):Zaa P md ops (OnlyNormal Q) L S (fuel+1) listed a w:=
 Zkc hi (Region.noSelect_spec hs) (λ_ _ _ h=>(h:False).elim) hL fuel listed a w (Region.free_spec hi hf) (by simpa using hr) hy hS h
end
def Zgw(md:Region.Mode)(ops:Array Oper)(L:List Nat):List Nat->Array Bool->Bool
 | [],_=>true
 | i::is,l=>Region.free md ops l i && (Region.ready md ops l).contains i && !L.contains i && Zgw md ops L is (l.setIfInBounds i true)
section
variable{P:Program}{ops:Array Oper}{Q:Exit->Act->World->Prop}{md:Region.Mode}{L:List Nat}{S:World->Prop}
theorem Zf5(hs:Region.noSelect ops=true){w:World}(hS:S w):∀ (is:List Nat) (F:Nat) (listed:Array Bool) (a:Act),Zgw md ops L is listed=true->Zct P ops (λ_=>True) is a (λa'=>Zaa P md ops (OnlyNormal Q) L S F (Zd1 is listed) a' w)->Zaa P md ops (OnlyNormal Q) L S (F+is.length) listed a w
 | [],F,l,a,_,h=>h
 | i::is,F,l,a,hc,h=>by
  obtain⟨oi,v,ho,hy,h2⟩:=h;simp only[Zgw,Qh,Qq]at hc;exact Zi ho hs hc.1.1.1 hc.1.1.2 hc.1.2 hy (λ_=>hS) (Zf5 hs hS is F _ _ hc.2 h2)
theorem Zgl{F:Nat}{listed:Array Bool}{a:Act}{w:World}(k:Nat)(is:List Nat)(hk:is.length=k)(hc:(Region.noSelect ops && Zgw md ops L is listed)=true)(hS:S w)
    (h:Zct P ops (λ_=>True) is a (λa'=>Zaa P md ops (OnlyNormal Q) L S F (Zd1 is listed) a' w)):Zaa P md ops (OnlyNormal Q) L S (F+k) listed a w:=by
 rw[Qh]at hc;subst hk;exact Zf5 hc.1 hS is F listed a hc.2 h
end
def Zbh(R:List Nat)(att:Nat->List Nat):List Nat:=R.flatMap λi=>i::att i
def Zip(md:Region.Mode)(ops:Array Oper)(l:Array Bool)(i:Nat):List Nat->List Nat->Bool
 | [],_=>true
 | u::us,done=>(match ops[u]? with|some o=>o.dst.isSome|none=>false) && (Zbb md ops u).contains i && !l.getD u true && (Zbb md ops u).all (λp=>p == i || done.contains p || l.getD p false || (Zbb md ops i).contains p) &&
     ((Qv ops.size).all λj=>j == u || (j == i || done.contains j || l.getD j false || (Zbb md ops i).contains j) || (Zbb md ops j).contains u || (match ops[u]?,ops[j]? with|some ou,some oj=>ou.apart ops oj|_,_=>true)) && Zip md ops l i us (u::done)
def Zu5(md:Region.Mode)(ops:Array Oper)(att:Nat->List Nat):List Nat->Array Bool->Bool
 | [],_=>true
 | r::rs,l=>!l.getD r true && (match ops[r]? with|some o=>o.dst.isSome|none=>false) && (Zbb md ops r).all (λp=>l.getD p false) && Zu5 md ops att rs (Zbr (r::att r) l)
def Zzx(md:Region.Mode)(ops:Array Oper)(R F:List Nat)(l:Array Bool):Bool:=
 (Qv ops.size).all λk=>F.contains k || l.getD k true || (Zbb md ops k).any (λp=>!F.contains p && !l.getD p false) || (R.all λr=>(clo md ops F.reverse (Zbb md ops k)).contains r)
def Zl3(md:Region.Mode)(ops:Array Oper)(R:List Nat)(att:Nat->List Nat)(l:Array Bool):Bool:=
 Zu5 md ops att R l && Zzx md ops R (Zbh R att) l && Zb8 ((Zbh R att).map (Zbk ops)) && decide (l.size=ops.size) && R.all (λi=>Zip md ops l i (att i) []) && Region.noSelect ops
section
variable{P:Program}{ops:Array Oper}{Q:Exit->Act->World->Prop}{md:Region.Mode}{L:List Nat}{S:World->Prop}
def Zrs(P:Program)(ops:Array Oper)(Φ:Nat->Value->World->Prop)(w:World):List Nat->Act->Prop
 | [],_=>True
 | u::us,a=>∃ o v,ops[u]?=some o/\YieldsIf P ops (λ_=>True) o v a/\Φ u v w/\Zrs P ops Φ w us (a.put o.dst v)
theorem Zhl{l:Array Bool}{i:Nat}(h:i<l.size):(l.setIfInBounds i true).getD i false=true:=by
 rw[Qc,Qw,Gx h];rfl
theorem Zcf{us:List Nat}{l:Array Bool}{k:Nat}(h:l.getD k false=true):(Zbr us l).getD k false=true:=by
 induction us generalizing l with
 | nil=>exact h
 | cons u us ih=>exact ih (l:=l.setIfInBounds u true) (Za1 h)
theorem Zm2{us:List Nat}{l:Array Bool}{k:Nat}(hk:k ∈ us)(h:k<l.size):(Zbr us l).getD k false=true:=by
 induction us generalizing l with
 | nil=>cases hk
 | cons u us ih =>
  rcases List.mem_cons.1 hk with rfl|hk;exact Zcf (us:=us) (Zhl h);exact ih (l:=l.setIfInBounds u true) hk (by simp;exact h)
theorem Ztq{Φ:Nat->Value->World->Prop}{l0:Array Bool}{i:Nat}{R:List Nat}{a0:Act}{w:World}{F:Nat}(hns:Region.noSelect ops=true)(hnd:Zb8 (R.map (Zbk ops))=true)(hiR:i ∈ R) :
    ∀ (us done:List Nat) (l:Array Bool) (ν:Nat->Value),Zip md ops l0 i us done=true->(∀ u ∈ us,u ∈ R)->(∀ u ∈ us,u ∉ L)->(∀ u ∈ us,l.getD u true=false)->l.size=ops.size->Zb8 us=true ->
     (∀ p,l0.getD p false=true->l.getD p false=true)->l.getD i false=true->(∀ p ∈ Zbb md ops i,l.getD p false=true)->(∀ u ∈ done,l.getD u false=true)->S w ->
     Zrs P ops Φ w us (Zap (R.map (Zbk ops)) a0 ν) ->
     (∀ ν',(∀ k,(∀ u ∈ us,Zbk ops u≠k)->ν' k=ν k)->(∀ u ∈ us,Φ u (ν' (Zbk ops u)) w)->Zaa P md ops (OnlyNormal Q) L S F (Zbr us l) (Zap (R.map (Zbk ops)) a0 ν') w) ->
     Zaa P md ops (OnlyNormal Q) L S (us.length+F) l (Zap (R.map (Zbk ops)) a0 ν) w:=by
 intro us
 induction us with
 | nil =>
  intro done l ν _ _ _ _ _ _ _ _ _ _ _ _ h;rw[show ([]:List Nat).length+F=F by simp];exact h ν (λ_ _=>rfl) (λu hu=>by cases hu)
 | cons u us ih =>
  intro done l ν hat hR hL hun hsz hndu hl0 hi hp hdone hS htr h;simp only[Zip,Qh,Ql]at hat;obtain⟨⟨⟨⟨⟨h1,h2⟩,h3⟩,h4⟩,h5⟩,h6⟩:=hat;obtain⟨o,v,ho,hy,hΦ,I⟩:=htr;obtain⟨n1,n2⟩:=Zb6 hndu;have U:u<ops.size:=(Array.getElem?_eq_some_iff.1 ho).1;have O:=hun u (Qd ..)
  have f:u ∈ Region.ready md ops l:=Zht O ho (λp hp2=>by
   have h7:=h4 p hp2;simp only[QN,beq_iff_eq]at h7;rcases h7 with ((h7|h7)|h7)|h7;rw[h7];exact hi;exact hdone p (List.contains_iff_mem.1 h7);exact hl0 p h7
   ·exact hp p (List.contains_iff_mem.1 h7))
  have C:o.dst=some (Zbk ops u):=by
   rw[ho]at h1;obtain⟨d,hd⟩:=Option.isSome_iff_exists.1 h1;unfold Zbk;rw[ho];simp only[hd,Qj]
  have J:Zbk ops u ∈ R.map (Zbk ops):=List.mem_map.2 ⟨u,hR u (Qd ..),rfl⟩;rw[QB,Yl]
  refine Zkc ho (Region.noSelect_spec hns) (λ_ _ _ h=>(h:False).elim) (by
   cases hc:L.contains u with
   | false=>rfl
   | true=>exact absurd (List.contains_iff_mem.1 hc) (hL u (Qd ..))) _ l _ w (λj oj hoj hju hjl hnw=>?_) f hy (λ_=>hS) ?_
  ·have h7:=h5 j (List.mem_range.2 (Array.getElem?_eq_some_iff.1 hoj).1)
   simp only[QN,beq_iff_eq]at h7;rcases h7 with ((h7|h7)|h7)|h7;exact absurd h7 hju
   ·exfalso
    have h8:l.getD j false=true:=by
     rcases h7 with ((h7|h7)|h7)|h7;rw[h7];exact hi;exact hdone j (List.contains_iff_mem.1 h7);exact hl0 j h7;exact hp j (List.contains_iff_mem.1 h7)
    rw[Zez h8]at hjl;cases hjl
   ·exfalso
    have h8:=List.contains_iff_mem.1 h7;unfold Zbb at h8;rw[hoj]at h8;obtain⟨e,he,T⟩:=List.mem_map.1 h8;rw[Yu]at he;exact hnw e (by simpa using he.1) he.2 T
   rw[ho,hoj]at h7;exact h7
  ·rw[C,Zkz J hnd]
   refine ih (u::done) (l.setIfInBounds u true) (upd ν (Zbk ops u) v) h6 (λx hx=>hR x (Qb _ hx)) (λx hx=>hL x (Qb _ hx)) (λx hx=>?_) (by simp;exact hsz) n2 (λp hp2=>Za1 (hl0 p hp2)) (Za1 hi) (λp hp2=>Za1 (hp p hp2)) (λx hx=>?_) hS ?_ (λν' k1 k2=>?_)
   ·rw[Go.getD_set_ne true (λe:u=x=>n1 (e▸hx))]
    exact hun x (Qb _ hx)
   ·rcases List.mem_cons.1 hx with rfl|hx
    exact Zhl (by omega);exact Za1 (hdone x hx)
   ·rw[C,Zkz J hnd]at I
    exact I
   ·refine h ν' (λk hk=>?_) (λx hx=>?_)
    ·rw[k1 k (λx hx=>hk x (Qb _ hx))]
     simp only[upd,Gw (Qx (hk u (Qd ..)))]
    ·rcases List.mem_cons.1 hx with rfl|hx
     ·have h9:∀ y ∈ us,Zbk ops y≠Zbk ops x:=λy hy=>Zf4 hnd (hR y (Qb _ hy)) (hR x (Qd ..)) (λe=>n1 (e▸hy))
      rw[k1 _ h9];simp only[upd,if_true];exact hΦ
     exact k2 x hx
theorem Zna{us:List Nat}{l:Array Bool}{k:Nat}(h:(Zbr us l).getD k false=true):k ∈ us \/ l.getD k false=true:=by
 induction us generalizing l with
 | nil=>exact .inr h
 | cons u us ih =>
  rcases ih (l:=l.setIfInBounds u true) h with h1|h1;exact .inl (Qb _ h1)
  ·by_cases hk:u=k
   exact .inl (hk▸Qd ..);rw[Go.getD_set_ne false hk]at h1;exact .inr h1
theorem Zhk{us:List Nat}{l:Array Bool}{k:Nat}(h:(Zbr us l).getD k true=false):l.getD k true=false:=by
 rw[Zch]at h
 split at h
 cases h;exact h
theorem Zjl{att:Nat->List Nat}:∀ (R:List Nat) (l0:Array Bool),Zu5 md ops att R l0=true->(∀ r ∈ R,l0.getD r true=false/\∃ o d,ops[r]?=some o/\o.dst=some d) /\
      ∀ l:Array Bool,l.size=l0.size->(∀ k,l0.getD k false=true->l.getD k false=true)->(∀ r ∈ R,l.getD r true=true->∀ u ∈ att r,l.getD u false=true)->(∃ r ∈ R,l.getD r true=false)->∃ r ∈ R,l.getD r true=false/\∀ p ∈ Zbb md ops r,l.getD p false=true
 | [],_,_=>⟨λr hr=>(by cases hr),λl _ _ _ ⟨r,hr,_⟩=>(by cases hr)⟩
 | r::R,l0,h=>by
  simp only[Zu5,Qh,Qq,Ql]at h;obtain⟨⟨⟨h1,h2⟩,h3⟩,h4⟩:=h;obtain⟨k1,k2⟩:=Zjl R _ h4;refine⟨λx hx=>?_,λl hsz hl hat hu=>?_⟩
  ·rcases List.mem_cons.1 hx with rfl|hx
   ·refine⟨h1,?_⟩
    cases ho:ops[x]? with
    | none=>rw[ho]at h2;cases h2
    | some o =>
     rw[ho]at h2;obtain⟨d,hd⟩:=Option.isSome_iff_exists.1 h2;exact⟨o,d,rfl,hd⟩
   ·obtain⟨m1,m2⟩:=k1 x hx
    exact⟨Zhk m1,m2⟩
  ·by_cases hr:l.getD r true=false
   exact⟨r,Qd ..,hr,λp hp=>hl p (h3 p hp)⟩
   ·have e:l.getD r true=true:=by simpa using hr
    have O:r<l0.size:=by
     rcases Qy r l0.size with h'|h';exact h';rw[Qc,Qs h']at h1;cases h1
    have J:r<l.size:=by omega
    have C:l.getD r false=true:=by
     rw[Qc,Qm J]at e ⊢;exact e
    obtain⟨x,hx,I⟩:=k2 l (by rw[Zgt];exact hsz) (λk hk=>by
     rcases Zna hk with h5|h5
     ·rcases List.mem_cons.1 h5 with rfl|h5
      exact C;exact hat r (Qd ..) e k h5
     ·exact hl k h5) (λy hy=>hat y (Qb _ hy)) (by
     obtain⟨y,hy,f⟩:=hu;rcases List.mem_cons.1 hy with rfl|hy;exact absurd f hr
     ·exact⟨y,hy,f⟩)
    exact⟨x,Qb _ hx,I⟩
theorem Zpo{R:List Nat}(hn:Zb8 R=true):∀ (us:List Nat) (l:Array Bool),Zb8 us=true->(∀ u ∈ us,u ∈ R)->(∀ u ∈ us,l.getD u true=false)->left R (Zbr us l)+us.length=left R l:=by
 intro us
 induction us with
 | nil=>intro l _ _ _;rfl
 | cons u us ih =>
  intro l h1 h2 h3;obtain⟨n1,n2⟩:=Zb6 h1;have h4:=Zl8 hn (h2 u (Qd ..)) (h3 u (Qd ..))
  have h5:=ih (l.setIfInBounds u true) n2 (λx hx=>h2 x (Qb _ hx)) (λx hx=>by
   rw[Go.getD_set_ne true (λe:u=x=>n1 (e▸hx))];exact h3 x (Qb _ hx))
  show left R (Zbr us (l.setIfInBounds u true))+(us.length+1)=_;omega
theorem Zey:∀ {a b:List Nat},Zb8 (a++b)=true->Zb8 b=true
 | [],_,h=>h
 | _::a,_,h=>Zey (a:=a) (Zb6 h).2
theorem Zfd:∀ {a b:List Nat},Zb8 (a++b)=true->Zb8 a=true
 | [],_,_=>rfl
 | x::a,b,h=>by
  obtain⟨h1,h2⟩:=Zb6 (x:=x) (l:=a++b) h;simp only[Zb8,Qh,Qq];refine⟨?_,Zfd h2⟩;cases hc:a.contains x with
  | false=>rfl
  | true=>exact absurd (List.mem_append_left _ (List.contains_iff_mem.1 hc)) h1
theorem Zlc:∀ {a b:List Nat},Zb8 (a++b)=true->∀ x,x ∈ a->x ∉ b
 | [],_,_,x,hx=>by cases hx
 | y::a,b,h,x,hx=>by
  obtain⟨h1,h2⟩:=Zb6 (x:=y) (l:=a++b) h;rcases List.mem_cons.1 hx with e|e;intro hb;exact h1 (List.mem_append_right _ (e▸hb));exact Zlc h2 x e
theorem Zsb{att:Nat->List Nat}:∀ {R:List Nat},Zb8 (Zbh R att)=true->∀ r ∈ R,Zb8 (r::att r)=true/\∀ r' ∈ R,r'≠r->∀ x ∈ r::att r,x ∉ r'::att r'
 | [],_,r,hr=>by cases hr
 | y::R,h,r,hr=>by
  have e:Zbh (y::R) att=(y::att y)++Zbh R att:=rfl;rw[e]at h;have h1:=Zfd h;have h2:=Zey h;have h3:=Zlc h;have f:∀ z ∈ R,∀ x ∈ z::att z,x ∈ Zbh R att:=λz hz x hx=>List.mem_flatMap.2 ⟨z,hz,hx⟩;by_cases hry:r=y
  ·subst hry
   refine⟨h1,λr' hr' hne x hx hx2=>?_⟩;rcases List.mem_cons.1 hr' with h4|h4;exact hne h4;exact h3 x hx (f r' h4 x hx2)
  ·have o:r ∈ R:=by
     rcases List.mem_cons.1 hr with h4|h4;exact absurd h4 hry;exact h4
   obtain⟨k1,k2⟩:=Zsb h2 r o;refine⟨k1,λr' hr' hne x hx hx2=>?_⟩;by_cases hr'y:r'=y
   ·subst hr'y
    exact h3 x hx2 (f r o x hx)
   ·rcases List.mem_cons.1 hr' with h4|h4
    exact hr'y h4;exact k2 r' h4 hne x hx hx2
theorem Zz3(R:List Nat)(att:Nat->List Nat)(D:List Nat)(hDR:∀ i ∈ D,i ∈ R)(Φ:Nat->Value->World->Prop){l0:Array Bool}{a0:Act}{w0:World}(hok:Zl3 md ops R att l0=true)(hL:∀ u ∈ Zbh R att,u ∉ L)
    (hst:∀ i ∈ Zbh R att,∀ v w w',Below w.heap.size w w'->Φ i v w->Φ i v w') (hS:∀ w',Below w0.heap.size w0 w'->S w') {F:Nat}
    (hop:∀ i ∈ R,∀ (ν:Nat->Value) (w:World),Below w0.heap.size w0 w->(∀ j ∈ Zbh R att,j ∈ Zbb md ops i->Φ j (ν (Zbk ops j)) w) ->
     wpOp P ops (OnlyNormal Q) i (λa' w'=>∃ v,a'=(Zap ((Zbh R att).map (Zbk ops)) a0 ν).put (some (Zbk ops i)) v/\Φ i v w'/\Below w.heap.size w w'/\Zrs P ops Φ w' (att i) a'/\(i ∈ D->∀ j ∈ D,∀ u,Φ j u w->v≠u)) (Zap ((Zbh R att).map (Zbk ops)) a0 ν) w)
    (hfin:∀ (ν:Nat->Value) (w:World),Below w0.heap.size w0 w->(∀ i ∈ Zbh R att,Φ i (ν (Zbk ops i)) w)->(∀ i ∈ D,∀ j ∈ D,i≠j->ν (Zbk ops i)≠ν (Zbk ops j))->Zaa P md ops (OnlyNormal Q) L S F (Zbr (Zbh R att) l0) (Zap ((Zbh R att).map (Zbk ops)) a0 ν) w) :
    ∀ (n:Nat) (l:Array Bool) (ν:Nat->Value) (w:World),n=left (Zbh R att) l->l.size=l0.size->(∀ k,k ∉ Zbh R att->l.getD k true=l0.getD k true)->(∀ k,l0.getD k false=true->l.getD k false=true) ->
     (∀ r ∈ Zbh R att,l.getD r false=true->∀ p ∈ Zbb md ops r,l.getD p false=true) ->
     (∀ r ∈ R,∀ u ∈ att r,(l.getD r true=true->l.getD u false=true)/\(l.getD r true=false->l.getD u true=false))->Below w0.heap.size w0 w->(∀ r ∈ Zbh R att,l.getD r true=true->Φ r (ν (Zbk ops r)) w)->(∀ i ∈ D,∀ j ∈ D,i≠j->l.getD i true=true->l.getD j true=true->ν (Zbk ops i)≠ν (Zbk ops j)) ->
     Zaa P md ops (OnlyNormal Q) L S (n+F) l (Zap ((Zbh R att).map (Zbk ops)) a0 ν) w:=by
 simp only[Zl3,Qh,decide_eq_true_eq]at hok;obtain⟨⟨⟨⟨⟨d0,b3⟩,a4⟩,d3⟩,a3⟩,c3⟩:=hok;rw[Ql]at a3;obtain⟨t1,t2⟩:=Zjl R l0 d0;have a2:=Zmh a4;have I:∀ r ∈ R,r ∈ Zbh R att:=λr hr=>List.mem_flatMap.2 ⟨r,hr,Qd ..⟩;have f:∀ r ∈ R,∀ u ∈ att r,u ∈ Zbh R att:=λr hr u hu=>List.mem_flatMap.2 ⟨r,hr,Qb _ hu⟩
 have a9:∀ r ∈ R,∀ u ∈ att r,r ∈ Zbb md ops u/\(∃ o,ops[u]?=some o):=λr hr=>by
  have:∀ (us done:List Nat),Zip md ops l0 r us done=true->∀ u ∈ us,r ∈ Zbb md ops u/\(∃ o,ops[u]?=some o):=by
   intro us
   induction us with
   | nil=>intro _ _ u hu;cases hu
   | cons x us ih =>
    intro done h u hu;simp only[Zip,Qh]at h;rcases List.mem_cons.1 hu with rfl|hu
    ·refine⟨List.contains_iff_mem.1 h.1.1.1.1.2,?_⟩
     cases ho:ops[u]? with
     | none=>have:=h.1.1.1.1.1;rw[ho]at this;cases this
     | some o=>exact⟨o,rfl⟩
    exact ih _ h.2 u hu
  exact this (att r) [] (a3 r hr)
 intro n
 induction n using Nat.strongRecOn with
 | _ n ih =>
  intro l ν w hn hsz hK hM hD hA hb hΦ hNE
  have Y:∀ r ∈ Zbh R att,r<l.size:=λx hx=>by
   obtain⟨r,hr,U⟩:=List.mem_flatMap.1 hx;rcases List.mem_cons.1 U with rfl|U
   ·obtain⟨-,o,d,ho,-⟩:=t1 x hr
    have:=(Array.getElem?_eq_some_iff.1 ho).1;omega
   ·obtain⟨-,o,ho⟩:=a9 r hr x U
    have:=(Array.getElem?_eq_some_iff.1 ho).1;omega
  have d6:∀ k,k<l.size->l.getD k true=true->l.getD k false=true:=λk hk h=>by
   rw[Qc,Qm hk]at h ⊢;exact h
  by_cases hex:∃ r ∈ R,l.getD r true=false
  ·obtain⟨r,hr,b4,c8⟩:=t2 l hsz hM (λr hr h u hu=>(hA r hr u hu).1 h) hex
   obtain⟨-,o,d,ho,-⟩:=t1 r hr;have a1:=Zht (md:=md) b4 ho c8
   obtain⟨m,rfl⟩:∃ m,n=m+1:=by
    have:=Zl8 a2 (I r hr) b4;exact⟨left (Zbh R att) (l.setIfInBounds r true),by omega⟩
   rw[Yl];refine⟨λh0=>(by rw[h0]at a1;cases a1),λi hi=>?_⟩;obtain⟨a5,c9,V⟩:=Zmg hi
   have T:i ∈ Zbh R att:=by
    apply Classical.byContradiction;intro c2;unfold Zzx at b3;rw[Ql]at b3;have h1:=b3 i (List.mem_range.2 c9);simp only[QN,QX,Ql,Qh,Qq]at h1;rcases h1 with ((h1|h1)|⟨p,hp,h2,h3⟩)|h1;exact c2 (List.contains_iff_mem.1 h1);rw[hK i c2,h1]at a5;cases a5
    ·have c7:p ∉ Zbh R att:=λh=>by rw[List.contains_iff_mem.2 h]at h2;cases h2
     have h4:=V p hp;have h5:=Zez h4;rw[hK p c7]at h5
     have d4:p<l.size:=by
      rcases Qy p l.size with h'|h';exact h';rw[Qc,Qs h']at h4;cases h4
     rw[Qc,Qm (by omega)]at h5 h3;simp only[Qj]at h5 h3;rw[h5]at h3;cases h3
    ·have h2:=Zsu (md:=md) (ops:=ops) (l:=l) (R:=Zbh R att) hD (Zbh R att).reverse (Zbb md ops i) (λr hr=>List.mem_reverse.1 hr) V
     have h3:=Zez (h2 r (List.contains_iff_mem.1 (h1 r hr)));rw[b4]at h3;cases h3
   have J:i ∈ R:=by
    obtain⟨r',O,hx⟩:=List.mem_flatMap.1 T;rcases List.mem_cons.1 hx with rfl|hx;exact O
    ·exfalso
     have h1:=Zez (V r' (a9 r' O i hx).1);have h2:=Zez ((hA r' O i hx).1 h1);rw[a5]at h2;cases h2
   have c6:Zbk ops i ∈ (Zbh R att).map (Zbk ops):=List.mem_map.2 ⟨i,T,rfl⟩;obtain⟨c0,b0⟩:=Zsb a2 i J;obtain⟨ni,nus⟩:=Zb6 c0;refine wpOp_mono (λa' w' h=>?_) (hop i J ν w hb λj hj hp=>hΦ j hj (Zez (V j hp)));obtain⟨v,rfl,hv,c1,b9,b7⟩:=h;have b5:=hb.trans (c1.mono hb.size);refine⟨λ_=>hS _ b5,?_⟩;rw[Zkz c6 a4]at b9 ⊢;have a6:(l.setIfInBounds i true).getD i false=true:=Zhl (Y i T)
   have b1:∀ u ∈ att i,(l.setIfInBounds i true).getD u true=false:=λu hu=>by
    rw[Go.getD_set_ne true (λe:i=u=>ni (e▸hu))];exact(hA i J u hu).2 a5
   have d5:=Zl8 a2 T a5;have d7:=Zpo a2 (att i) (l.setIfInBounds i true) nus (f i J) b1;have hm:m=(att i).length+left (Zbh R att) (Zbr (att i) (l.setIfInBounds i true)):=by omega
   rw[hm,Nat.add_assoc];refine Ztq (R:=Zbh R att) c3 a4 T (att i) [] (l.setIfInBounds i true) _ (a3 i J) (f i J) (λu hu=>hL u (f i J u hu)) b1 (by simp;omega) nus (λp hp=>Za1 (hM p hp)) a6 (λp hp=>Za1 (V p hp)) (λu hu=>by cases hu) (hS _ b5) b9 (λν' k1 k2=>?_)
   have hνi:ν' (Zbk ops i)=v:=by
    rw[k1 _ (λu hu=>Zf4 a4 (f i J u hu) T (λe=>ni (e▸hu)))];simp only[upd,if_true]
   have hνo:∀ x ∈ Zbh R att,x≠i->x ∉ att i->ν' (Zbk ops x)=ν (Zbk ops x):=λx hx h1 h2=>by
    rw[k1 _ (λu hu=>Zf4 a4 (f i J u hu) hx (λe=>h2 (e▸hu)))];simp only[upd,Gw (Zf4 a4 hx T h1)]
   refine ih _ (by omega) (Zbr (att i) (l.setIfInBounds i true)) ν' w' rfl (by rw[Zgt];simp;exact hsz) (λk hk=>?_) (λk hk=>Zcf (Za1 (hM k hk))) (λx hx hxt p hp=>?_) (λr' O u hu=>?_) b5 (λx hx hxt=>?_) (λa ha b hb' hab hat hbt=>?_)
   ·rw[Zch,Gw (λh=>hk (f i J k h)),Go.getD_set_ne true (λe:i=k=>hk (e▸T))]
    exact hK k hk
   ·rcases Zna hxt with h1|h1
    ·-- an operation of the train
     have h2:∀ (us done:List Nat),Zip md ops l0 i us done=true->(∀ u ∈ done,(Zbr (att i) (l.setIfInBounds i true)).getD u false=true)->(∀ u ∈ us,u ∈ att i)->∀ u ∈ us,∀ p ∈ Zbb md ops u,(Zbr (att i) (l.setIfInBounds i true)).getD p false=true:=by
      intro us
      induction us with
      | nil=>intro _ _ _ _ u hu;cases hu
      | cons y us ihu =>
       intro done h hd C u hu p hp;simp only[Zip,Qh,Ql]at h;rcases List.mem_cons.1 hu with rfl|hu
       ·have h7:=h.1.1.2 p hp
        simp only[QN,beq_iff_eq]at h7;rcases h7 with ((h7|h7)|h7)|h7;rw[h7];exact Zcf a6;exact hd p (List.contains_iff_mem.1 h7);exact Zcf (Za1 (hM p h7));exact Zcf (Za1 (V p (List.contains_iff_mem.1 h7)))
       ·refine ihu (y::done) h.2 (λz hz=>?_) (λz hz=>C z (Qb _ hz)) u hu p hp
        rcases List.mem_cons.1 hz with rfl|hz;exact Zm2 (C z (Qd ..)) (by simp;exact Y z (f i J z (C z (Qd ..))));exact hd z hz
     exact h2 (att i) [] (a3 i J) (λu hu=>by cases hu) (λu hu=>hu) x h1 p hp
    ·by_cases hxi:i=x
     subst hxi;exact Zcf (Za1 (V p hp))
     ·rw[Go.getD_set_ne false hxi]at h1
      exact Zcf (Za1 (hD x hx h1 p hp))
   ·by_cases hri:r'=i
    ·subst hri
     refine⟨λ_=>Zm2 hu (by simp;exact Y u (f r' O u hu)),λh=>?_⟩;have h1:=Zhk h;rw[Zez a6]at h1;cases h1
    ·have b6:=b0 r' O hri
     have c4:u ∉ att i:=λh=>b6 u (Qb _ h) (Qb _ hu);have c5:i≠u:=λh=>b6 i (Qd ..) (h▸Qb _ hu);have b2:r' ∉ att i:=λh=>b6 r' (Qb _ h) (Qd ..);refine⟨λh=>?_,λh=>?_⟩
     ·rw[Zch,Gw b2,Go.getD_set_ne true (Qx hri)]at h
      exact Zcf (Za1 ((hA r' O u hu).1 h))
     ·rw[Zch,Gw b2,Go.getD_set_ne true (Qx hri)]at h
      rw[Zch,Gw c4,Go.getD_set_ne true c5];exact(hA r' O u hu).2 h
   ·by_cases hxi:x=i
    subst hxi;rw[hνi];exact hv
    ·by_cases hxa:x ∈ att i
     exact k2 x hxa
     ·rw[hνo x hx hxi hxa]
      rw[Zch,Gw hxa,Go.getD_set_ne true (Qx hxi)]at hxt;exact hst x hx _ _ _ c1 (hΦ x hx hxt)
   ·have b8:∀ x ∈ D,x ∉ att i:=λx hx h=>by
      by_cases hxi:x=i;exact ni (hxi▸h);exact b0 x (hDR x hx) hxi x (Qb _ h) (Qd ..)
    have a8:∀ x ∈ D,x≠i->(Zbr (att i) (l.setIfInBounds i true)).getD x true=true->ν' (Zbk ops x)=ν (Zbk ops x)/\l.getD x true=true:=λx hx hxi h=>by
     rw[Zch,Gw (b8 x hx),Go.getD_set_ne true (Qx hxi)]at h;exact⟨hνo x (I x (hDR x hx)) hxi (b8 x hx),h⟩
    by_cases hai:a=i
    ·have a7:b≠i:=λh=>hab (hai.trans h.symm)
     obtain⟨e1,e2⟩:=a8 b hb' a7 hbt;rw[hai,hνi,e1];exact b7 (hai▸ha) b hb' _ (hΦ b (I b (hDR b hb')) e2)
    ·obtain⟨e1,e2⟩:=a8 a ha hai hat
     by_cases a7:b=i
     ·rw[a7,hνi,e1]
      exact λh=>b7 (a7▸hb') a ha _ (hΦ a (I a (hDR a ha)) e2) h.symm
     ·obtain⟨e3,e4⟩:=a8 b hb' a7 hbt
      rw[e1,e3];exact hNE a ha b hb' hab e2 e4
  ·have C:∀ x ∈ Zbh R att,l.getD x true=true:=λx hx=>by
     obtain⟨r,hr,U⟩:=List.mem_flatMap.1 hx
     have h1:l.getD r true=true:=by
      cases h:l.getD r true with
      | true=>rfl
      | false=>exact absurd ⟨r,hr,h⟩ hex
     rcases List.mem_cons.1 U with rfl|U;exact h1;exact Zez ((hA r hr x U).1 h1)
   have h0:left (Zbh R att) l=0:=by
    unfold left;rw[List.length_eq_zero_iff,List.filter_eq_nil_iff];intro r hr;rw[C r hr];simp
   have:l=Zbr (Zbh R att) l0:=by
    refine Zta (by rw[Zgt];exact hsz) λk=>?_;rw[Zch];by_cases hk:k ∈ Zbh R att;rw[Gx hk];exact C k hk;rw[Gw hk];exact hK k hk
   subst this;rw[hn,h0,QZ];exact hfin ν w hb (λi hi=>hΦ i hi (C i hi)) (λi hi j hj hij=>hNE i hi j hj hij (C i (I i (hDR i hi))) (C j (I j (hDR j hj))))
theorem Zr0(DP:List (Nat × Nat))(RP:List (Nat × Nat))(att:Nat->List Nat)(FP:List (Nat × Nat))(Φ:Nat->Value->World->Prop)(F:Nat){l0:Array Bool}{a0:Act}{w0:World}
    (hok:(Zl3 md ops (RP.map (·.1)) att l0 && (Zbh (RP.map (·.1)) att == FP.map (·.1)) && FP.all (λp=>Zbk ops p.1 == p.2) && RP.all (λp=>Zbk ops p.1 == p.2) && FP.all (λp=>!L.contains p.1) && DP.all (λp=>RP.contains p))=true)
    (hst:∀ p ∈ FP,∀ v w w',Below w.heap.size w w'->Φ p.1 v w->Φ p.1 v w') (hS:∀ w',Below w0.heap.size w0 w'->S w')
    (hop:∀ p ∈ RP,∀ (ν:Nat->Value) (w:World),Below w0.heap.size w0 w->(∀ q ∈ FP,(Zbb md ops p.1).contains q.1=true->Φ q.1 (ν q.2) w) ->
     wpOp P ops (OnlyNormal Q) p.1 (λa' w'=>∃ v,a'=(Zap (FP.map (·.2)) a0 ν).put (some p.2) v/\Φ p.1 v w'/\Below w.heap.size w w'/\Zrs P ops Φ w' (att p.1) a'/\(p ∈ DP->∀ q ∈ DP,∀ u,Φ q.1 u w->v≠u)) (Zap (FP.map (·.2)) a0 ν) w)
    (hfin:∀ (ν:Nat->Value) (w:World),Below w0.heap.size w0 w->(∀ p ∈ FP,Φ p.1 (ν p.2) w)->(∀ p ∈ DP,∀ q ∈ DP,p≠q->ν p.2≠ν q.2)->Zaa P md ops (OnlyNormal Q) L S F (Zbr (FP.map (·.1)) l0) (Zap (FP.map (·.2)) a0 ν) w) :
    Zaa P md ops (OnlyNormal Q) L S (FP.length+F) l0 a0 w0:=by
 simp only[Qh,beq_iff_eq]at hok;obtain⟨⟨⟨⟨⟨h1,h2⟩,h3⟩,h4⟩,h5⟩,h6⟩:=hok;rw[Ql]at h6;have hD:=Zsc (ops:=ops) FP h3;rw[<- h2]at hD;rw[Ql]at h3 h4 h5
 have I:∀ i,i ∈ Zbh (RP.map (·.1)) att->∃ p ∈ FP,p.1=i:=λi hi=>by
  rw[h2]at hi;exact List.mem_map.1 hi
 have O:=h1;simp only[Zl3,Qh,decide_eq_true_eq]at h1;obtain⟨⟨⟨⟨⟨a1,-⟩,a3⟩,a2⟩,C⟩,-⟩:=h1;obtain⟨t1,-⟩:=Zjl _ l0 a1
 have f:∀ i ∈ Zbh (RP.map (·.1)) att,l0.getD i true=false:=λx hx=>by
  obtain⟨r,hr,J⟩:=List.mem_flatMap.1 hx;rcases List.mem_cons.1 J with rfl|J;exact(t1 x hr).1
  ·rw[Ql]at C
   have:∀ (us done:List Nat),Zip md ops l0 r us done=true->∀ u ∈ us,l0.getD u true=false:=by
    intro us
    induction us with
    | nil=>intro _ _ u hu;cases hu
    | cons y us ih =>
     intro done h u hu;simp only[Zip,Qh,Qq]at h;rcases List.mem_cons.1 hu with rfl|hu;exact h.1.1.1.2;exact ih _ h.2 u hu
   exact this _ _ (C r hr) x J
 have T:left (Zbh (RP.map (·.1)) att) l0=FP.length:=by
  unfold left;rw[List.filter_eq_self.2 (λr hr=>by rw[f r hr];rfl),h2,QE]
 have h:=Zz3 (P:=P) (ops:=ops) (Q:=Q) (md:=md) (L:=L) (S:=S) (RP.map (·.1)) att (DP.map (·.1)) (λi hi=>by
  obtain⟨p,hp,rfl⟩:=List.mem_map.1 hi;exact List.mem_map.2 ⟨p,List.contains_iff_mem.1 (h6 p hp),rfl⟩) Φ (F:=F) (a0:=a0) (w0:=w0) O (λu hu=>by
  obtain⟨p,hp,rfl⟩:=I u hu;have:=h5 p hp;intro hc;rw[List.contains_iff_mem.2 hc]at this;cases this) (λi hi=>by
  obtain⟨p,hp,rfl⟩:=I i hi;exact hst p hp) hS (λi hi ν w hb hP=>by
  obtain⟨p,hp,rfl⟩:=List.mem_map.1 hi
  have:=hop p hp ν w hb (λq hq hc=>by
   have o:=hP q.1 (by rw[h2];exact List.mem_map.2 ⟨q,hq,rfl⟩) (List.contains_iff_mem.1 hc);have e:=h3 q hq;simp only[beq_iff_eq]at e;rw[e]at o;exact o)
  have e:=h4 p hp;simp only[beq_iff_eq]at e;rw[hD,e];refine wpOp_mono (λa' w' h=>?_) this;obtain⟨v,k1,k2,k3,k4,k5⟩:=h;refine⟨v,k1,k2,k3,k4,λhi j hj u hu=>?_⟩;obtain⟨p',U,V⟩:=List.mem_map.1 hi;obtain⟨q',Y,rfl⟩:=List.mem_map.1 hj;have e1:=h4 p' (List.contains_iff_mem.1 (h6 p' U));simp only[beq_iff_eq]at e1;have:p'=p:=Prod.ext V (by rw[<- e1,<- e,V]);exact k5 (this▸U) q' Y u hu) (λν w hb hf hne=>by
  rw[hD,h2]
  exact hfin ν w hb (λp hp=>by
   have o:=hf p.1 (by rw[h2];exact List.mem_map.2 ⟨p,hp,rfl⟩);have e:=h3 p hp;simp only[beq_iff_eq]at e;rw[e]at o;exact o) (λp hp q hq hpq=>by
   have e1:=h4 p (List.contains_iff_mem.1 (h6 p hp));have e2:=h4 q (List.contains_iff_mem.1 (h6 q hq));simp only[beq_iff_eq]at e1 e2;have:=hne p.1 (List.mem_map.2 ⟨p,hp,rfl⟩) q.1 (List.mem_map.2 ⟨q,hq,rfl⟩) (λh=>hpq (Prod.ext h (by rw[<- e1,<- e2,h])));rw[e1,e2]at this;exact this)) FP.length l0 (λd=>a0.tmps.getD d undef) w0 T.symm rfl (λ_ _=>rfl) (λ_ h=>h)
  (λr hr h=>by have h1:=Zez h;rw[f r hr]at h1;cases h1)
  (λr hr u hu=>⟨λh=>(by rw[f r (List.mem_flatMap.2 ⟨r,hr,Qd ..⟩)]at h;cases h),λ_=>f u (List.mem_flatMap.2 ⟨r,hr,Qb _ hu⟩)⟩)
  (Qa _ _) (λr hr h=>by rw[f r hr]at h;cases h)
  (λi hi j hj _ h _=>by
   obtain⟨p,hp,rfl⟩:=List.mem_map.1 hi;rw[f p.1 (List.mem_flatMap.2 ⟨p.1,List.mem_map.2 ⟨p,List.contains_iff_mem.1 (h6 p hp),rfl⟩,Qd ..⟩)]at h;cases h)
 rw[Zs0]at h;exact h
theorem Za2(RP:List (Nat × Nat))(att:Nat->List Nat)(FP:List (Nat × Nat))(Φ:Nat->Value->World->Prop)(F:Nat){l0:Array Bool}{a0:Act}{w0:World}
    (hok:(Zl3 md ops (RP.map (·.1)) att l0 && (Zbh (RP.map (·.1)) att == FP.map (·.1)) && FP.all (λp=>Zbk ops p.1 == p.2) && RP.all (λp=>Zbk ops p.1 == p.2) && FP.all (λp=>!L.contains p.1))=true)
    (hst:∀ p ∈ FP,∀ v w w',Below w.heap.size w w'->Φ p.1 v w->Φ p.1 v w') (hS:∀ w',Below w0.heap.size w0 w'->S w')
    (hop:∀ p ∈ RP,∀ (ν:Nat->Value) (w:World),Below w0.heap.size w0 w->(∀ q ∈ FP,(Zbb md ops p.1).contains q.1=true->Φ q.1 (ν q.2) w) ->
     wpOp P ops (OnlyNormal Q) p.1 (λa' w'=>∃ v,a'=(Zap (FP.map (·.2)) a0 ν).put (some p.2) v/\Φ p.1 v w'/\Below w.heap.size w w'/\Zrs P ops Φ w' (att p.1) a') (Zap (FP.map (·.2)) a0 ν) w)
    (hfin:∀ (ν:Nat->Value) (w:World),Below w0.heap.size w0 w->(∀ p ∈ FP,Φ p.1 (ν p.2) w)->Zaa P md ops (OnlyNormal Q) L S F (Zbr (FP.map (·.1)) l0) (Zap (FP.map (·.2)) a0 ν) w) :
    Zaa P md ops (OnlyNormal Q) L S (FP.length+F) l0 a0 w0:=
 Zr0 [] RP att FP Φ F (by rw[hok];rfl) hst hS (λp hp ν w hb hP=>wpOp_mono (λa' w' h=>by
  obtain⟨v,k1,k2,k3,k4⟩:=h;exact⟨v,k1,k2,k3,k4,λh=>by cases h⟩) (hop p hp ν w hb hP)) (λν w hb hf _=>hfin ν w hb hf)
end
def Zaj(B0:Nat)(q:Rat)(ca mv x0 x1 al as_:Nat)(i:Nat)(v:Value)(w:World):Prop:=
 if i=ca \/ i=mv then ∃ na A n c nb B m d,v=.tuple #[.agg #[.bool na,.slice A n c,.bool nb,.slice B m d],.int .i64 0]/\Fr w na A n c nb B m d q
 else if i=x0 then ∃ na A n c nb B m d,v=.agg #[.bool na,.slice A n c,.bool nb,.slice B m d]/\Fr w na A n c nb B m d q
 else if i=x1 \/ i=as_ then v=.int .i64 0
 else if i=al then ∃ g,v=.pointer (some ⟨g,0,none⟩)/\B0<=g/\Blk w g 41 #[.bool false,.slice none 0 0,.bool false,.slice none 0 0]
 else True
theorem Zhi{B0:Nat}{q:Rat}{ca mv x0 x1 al as_ i:Nat}{v:Value}{w w':World}(hb:Below w.heap.size w w')(h:Zaj B0 q ca mv x0 x1 al as_ i v w):Zaj B0 q ca mv x0 x1 al as_ i v w':=by
 unfold Zaj at h ⊢
 split at h
 ·rename_i h1;rw[Gx h1]
  obtain⟨na,A,n,c,nb,B,m,d,e,hf⟩:=h;exact⟨na,A,n,c,nb,B,m,d,e,hf.below hb⟩
 ·rename_i h1;rw[Gw h1]
  split at h
  ·rename_i h2;rw[Gx h2]
   obtain⟨na,A,n,c,nb,B,m,d,e,hf⟩:=h;exact⟨na,A,n,c,nb,B,m,d,e,hf.below hb⟩
  ·rename_i h2;rw[Gw h2]
   split at h
   rename_i h3;rw[Gx h3];exact h
   ·rename_i h3;rw[Gw h3]
    split at h
    ·rename_i h4;rw[Gx h4]
     obtain⟨g,e,h5,h6⟩:=h;exact⟨g,e,h5,Zc hb h6⟩
    rename_i h4;rw[Gw h4];trivial
theorem FOwn.keptG{t:TypeId}{w w':World}{g:Nat}{qs:List Rat}{G:Nat->Prop}(h:FOwn t w g qs)(hk:Kept G w w')(hg:¬ G g)(hG:∀ k,G k->∃ t cs,Blk w k t cs/\NoLimb cs):FOwn t w' g qs:=by
 obtain⟨es,zs,h1,h2,h3⟩:=h;exact⟨es,zs,hk.blk h1 hg,λe he=>⟨hk.wd (h2 e he).1 hG,hk.wd (h2 e he).2 hG⟩,h3⟩
theorem Fr.zero_iff{w:World}{na:Bool}{A:Option Addr}{n c:Nat}{nb:Bool}{B:Option Addr}{m d:Nat}{r:Rat}(h:Fr w na A n c nb B m d r):n=0 ↔ r=0:=by
 have h1:=h.1.lim.len;have h2:=length_digits_pos (v:=r.num.natAbs);constructor
 ·intro hn
  have:r.num=0:=by omega
  exact Rat.num_eq_zero.1 this
 ·rintro rfl
  have:(0:Rat).num.natAbs=0:=rfl;omega
theorem Zc0(es fs:List WE):Zam (es++fs)=Zam es++Zam fs:=by
 induction es with
 | nil=>rfl
 | cons e l ih=>simp only[List.cons_append,Zam,ih]
theorem Ztx(fs:List WE):∀ u ∈ Zam fs,u.oneCell'=true:=by
 induction fs with
 | nil=>intro u h;simp[Zam]at h
 | cons e l ih =>
  intro u h;simp only[Zam,List.mem_cons]at h;rcases h with rfl|rfl|h;rfl;rfl;exact ih u h
theorem Zil(k:Nat):(Qn #[.bool false,.slice none 0 0] k).toList=Zam (Qf k Zco):=by
 rw[Zk5];unfold Qn madeCells;apply QU;intro i;by_cases h:i<k*2;simp[h];simp[h]
def RowW(t:TypeId)(w:World)(base:Nat)(v:Value)(es:List WE):Prop:=
 (v=.slice none 0 0/\es=[]) \/ ∃ g sp,v=.slice (some ⟨g,0,none⟩) es.length (es.length+sp)/\base<=g/\es.length+sp<=maxLen/\Blk w g t (Zbt (es++Qf sp Zco))
section
variable{t:TypeId}{w w':World}{base:Nat}{v:Value}{es:List WE}
theorem RowW.own(h:RowW t w base v es):w.ownsRow base t 2 v es.length (Zam es):=by
 refine⟨Za8 es,?_⟩;rcases h with ⟨h1,rfl⟩|⟨g,sp,h1,h2,h3,h4⟩;exact .inl ⟨h1,rfl⟩
 ·refine .inr ⟨g,_,_,h1,h2,h4,Ya _ _,h3,?_,?_⟩
  simp[Zbt,Za8]
  ·simp only[Zbt]
   rw[Zc0,<- Za8 es];exact Yh
theorem RowW.row_ge(h:RowW t w base v es):∀ k,v.ownBlock=some k->base<=k:=λk hk=>(h.own.lt k hk).1
theorem RowW.kept(h:RowW t w base v es)(hb:Below w.heap.size w w'):RowW t w' base v es:=by
 rcases h with h|⟨g,sp,h1,h2,h3,h4⟩;exact .inl h;exact .inr ⟨g,sp,h1,h2,h3,Zc hb h4⟩
theorem RowW.keep(h:RowW t w base v es)(hg:w.grownBy w' v.ownBlock){A:Option Addr}{n c:Nat}{l:List Nat}(hL:Lim w A n c l):Lim w' A n c l:=by
 refine⟨hL.1,hL.2.1,hL.2.2.1,hL.2.2.2.1,λhn=>?_⟩;obtain⟨b,o,e,hc⟩:=hL.2.2.2.2 hn;refine⟨b,o,e,λk hk=>?_⟩;rw[<- hc k hk];refine QM (hg.block b (Zo (hc k hk)) (λe'=>?_));rcases h with ⟨rfl,_⟩|⟨g,sp,rfl,_,_,h4⟩;cases e'
 ·have f:b=g:=by simpa [Value.ownBlock]using e'
  subst f;have h1:=hc k hk;rw[h4.cell]at h1;exact Zdf _ _ _ h1
end
section
variable{P:Program}(w:World)
end
def OwnP(t:TypeId)(w:World)(base:Nat)(v:Value)(xs:List Int):Prop:=∃ es,RowW t w base v es/\(∀ e ∈ es,Lim w e.A e.n e.c e.l/\e.ok=true)/\es.map WE.num=xs
section
variable{t:TypeId}{w w':World}{base:Nat}{v:Value}{xs:List Int}
theorem OwnP.nil(t:TypeId)(w:World)(base:Nat):OwnP t w base (.slice none 0 0) []:=⟨[],.inl ⟨rfl,rfl⟩,λe h=>by simp at h,rfl⟩
theorem OwnP.kept(h:OwnP t w base v xs)(hb:Below w.heap.size w w'):OwnP t w' base v xs:=by
 obtain⟨es,h1,h2,h3⟩:=h;exact⟨es,h1.kept hb,λe he=>⟨(h2 e he).1.below hb,(h2 e he).2⟩,h3⟩
theorem OwnP.row_ge(h:OwnP t w base v xs):∀ k,v.ownBlock=some k->base<=k:=by obtain⟨es,h1,_⟩:=h;exact h1.row_ge
theorem OwnP.poly(h:OwnP t w base v xs):∃ A c,v=.slice A xs.length c/\PolyL w A xs.length c xs:=by
 obtain⟨es,h1,h2,rfl⟩:=h;rcases h1 with ⟨rfl,rfl⟩|⟨g,sp,rfl,h4,h5,h6⟩;exact⟨none,0,rfl,[],⟨rfl,Qg _,QC _,λh=>absurd h (by simp),λe h=>by simp at h⟩,rfl,λe h=>by simp at h⟩
 ·rw[QE]
  refine⟨_,es.length+sp,rfl,es,⟨rfl,Ya _ _,h5,λ_=>⟨g,0,rfl,λk e he=>?_⟩,λe he=>(h2 e he).1⟩,rfl,λe he=>(h2 e he).2⟩;have hk:k<es.length:=(List.getElem?_eq_some_iff.1 he).1;have hc:=Zjg (es:=es++Qf sp Zco) (i:=k) (e:=e) (by rw[Qu hk];exact he);rw[QZ,h6.cell,h6.cell];exact hc
theorem Zgi(b:Bool)(A:Option Addr)(n c:Nat):NoLimb #[.bool b,.slice A n c]:=λi x=>by
 match i with
 | 0=>simp
 | 1=>simp
 | i+2=>simp
theorem Wd.of_keep{neg:Bool}{A:Option Addr}{n c:Nat}{z:Int}(hk:∀ (A:Option Addr) (n c:Nat) (l:List Nat),Lim w A n c l->Lim w' A n c l)(h:Wd w neg A n c z):Wd w' neg A n c z:=⟨h.1,h.2.1,hk _ _ _ _ h.2.2⟩
end
theorem OwnP.snoc{t:TypeId}{w:World}{base:Nat}{v:Value}{xs:List Int}{neg:Bool}{A:Option Addr}{n c:Nat}{z:Int}{W:World}(h:OwnP t w base v (xs ++ [⟨neg,A,n,c,digits z.natAbs⟩].map WE.num))(hW:Wd W neg A n c z):OwnP t w base v (xs ++ [z]):=by
 rw[List.map_cons,List.map_nil,show WE.num ⟨neg,A,n,c,digits z.natAbs⟩=z from hW.sgEq]at h;exact h
section
variable{P:Program}(w:World)
end
structure RS where
 A:Option Addr
 n:Nat
 c:Nat
def RS.val(r:RS):Value:=.slice r.A r.n r.c
def Zav:List RS->List Value
 | []=>[]
 | e::l=>.slice e.A e.n e.c::Zav l
def Z0(es:List RS):Array Value:=(Zav es).toArray
def Zay:RS:=⟨none,0,0⟩
theorem Zbi(es:List RS):(Zav es).length=es.length*1:=by
 induction es with
 | nil=>rfl
 | cons e l ih=>simp only[Zav,QB,ih];omega
theorem Zci(es:List RS):Zav es=es.map RS.val:=by
 induction es with
 | nil=>rfl
 | cons e l ih=>simp only[Zav,List.map_cons,ih];rfl
theorem Zuh{es:List RS}{i:Nat}{e:RS}(h:es[i]?=some e):(Zav es)[i]?=some (.slice e.A e.n e.c):=by
 rw[Zci,Qi,h];rfl
theorem Zbs{es:List RS}{i:Nat}{e:RS}(h:es[i]?=some e):(Z0 es)[i]?=some (.slice e.A e.n e.c):=by simpa [Z0]using Zuh h
theorem Znx(es:List RS):∀ (i x:Nat),(Zav es)[i]?≠some (limb x):=by
 intro i x;rw[Zci,Qi];cases es[i]? with
 | none=>simp
 | some e=>simp[RS.val]
theorem Zbj(es:List RS):NoLimb (Z0 es):=λi x=>by simpa [Z0]using Znx es i x
theorem Zcy(es fs:List RS):Zav (es++fs)=Zav es++Zav fs:=by simp only[Zci,List.map_append]
theorem Zum(fs:List RS):∀ u ∈ Zav fs,u.oneCell'=true:=by
 intro u h;rw[Zci]at h;obtain⟨r,-,rfl⟩:=List.mem_map.1 h;rfl
theorem Zdr{es:List RS}{i:Nat}(e:RS):(Z0 es).setIfInBounds i (.slice e.A e.n e.c)=Z0 (es.set i e):=by
 unfold Z0;rw[Zci,Zci,Yk];simp[RS.val]
theorem Zis(k:Nat):(Qn #[.slice none 0 0] k).toList=Zav (Qf k Zay):=by
 rw[Zci];unfold Qn;apply QU;intro i;by_cases h:i<k;simp[h,Zay,RS.val,QH,Nat.mod_one];simp[h,QH]
def RowS(t:TypeId)(w:World)(base:Nat)(v:Value)(es:List RS):Prop:=
 (v=.slice none 0 0/\es=[]) \/ ∃ g sp,v=.slice (some ⟨g,0,none⟩) es.length (es.length+sp)/\base<=g/\es.length+sp<=maxLen/\Blk w g t (Z0 (es++Qf sp Zay))
section
variable{t:TypeId}{w w':World}{base:Nat}{v:Value}{es:List RS}
theorem RowS.own(h:RowS t w base v es):w.ownsRow base t 1 v es.length (Zav es):=by
 refine⟨Zbi es,?_⟩;rcases h with ⟨h1,rfl⟩|⟨g,sp,h1,h2,h3,h4⟩;exact .inl ⟨h1,rfl⟩
 ·refine .inr ⟨g,_,_,h1,h2,h4,Ya _ _,h3,?_,?_⟩
  simp[Z0,Zbi]
  ·simp only[Z0]
   rw[Zcy,<- Zbi es];exact Yh
theorem RowS.row_ge(h:RowS t w base v es):∀ k,v.ownBlock=some k->base<=k:=λk hk=>(h.own.lt k hk).1
theorem RowS.kept(h:RowS t w base v es)(hb:Below w.heap.size w w'):RowS t w' base v es:=by
 rcases h with h|⟨g,sp,h1,h2,h3,h4⟩;exact .inl h;exact .inr ⟨g,sp,h1,h2,h3,Zc hb h4⟩
theorem RowS.keep(h:RowS t w base v es)(hg:w.grownBy w' v.ownBlock){A:Option Addr}{n c:Nat}{l:List Nat}(hL:Lim w A n c l):Lim w' A n c l:=by
 refine⟨hL.1,hL.2.1,hL.2.2.1,hL.2.2.2.1,λhn=>?_⟩;obtain⟨b,o,e,hc⟩:=hL.2.2.2.2 hn;refine⟨b,o,e,λk hk=>?_⟩;rw[<- hc k hk];refine QM (hg.block b (Zo (hc k hk)) (λe'=>?_));rcases h with ⟨rfl,_⟩|⟨g,sp,rfl,_,_,h4⟩;cases e'
 ·have f:b=g:=by simpa [Value.ownBlock]using e'
  subst f;have h1:=hc k hk;rw[h4.cell]at h1;exact Zbj _ _ _ h1
end
section
variable{P:Program}(w:World)
theorem Zms(base:Nat)(t ty e:TypeId)(i:TypeInfo)(ht:P.underlying t=some (.slice e))(hi:P.info? e=some i)(hz:i.zero=some (.slice none 0 0))
    (hs:i.size=1) (hby:i.bytes=24) (v:Value) (es:List RS) (hown:RowS e w base v es)
    (B:Nat) (A:Option Addr) (m c:Nat) (fs:List RS) (hr:Reads w B 1 A m (Zav fs)) (hm:fs.length=m) (h63:es.length+m<=1000) (hbase:base<=w.heap.size) :
    ∃ v' w',(Yd #[t,t] ty #[v,.slice A m c]).run P w=.ok v' w'/\RowS e w' base v' (es++fs)/\w.grownBy w' v.ownBlock:=by
 rcases Nat.eq_zero_or_pos m with h0|h0
 ·subst h0
  obtain rfl:fs=[]:=QO hm;rw[List.append_nil];rcases A with _|ad;exact⟨v,w,Zcg w base t ty e i 1 ht hi v _ _ hown.own c,hown,World.grownBy.refl w _⟩
  ·have hf:=run_firstCells_some (P:=P) w i.size 0 ad 0 c [] (by simp) (by simp)
   rcases hown with ⟨rfl,rfl⟩|⟨g,sp,rfl,h2,h3,h4⟩
   ·refine⟨.slice none 0 0,w,?_,.inl ⟨rfl,rfl⟩,World.grownBy.refl w _⟩
    simp[Yd,run_underlying ht,sizeOf,typeInfo,hi,Builtin.lenOf,Builtin.firstCells,loadCells,loadCellsFrom]
   ·refine⟨_,w,?_,.inr ⟨g,sp,rfl,h2,h3,h4⟩,World.grownBy.refl w _⟩
    simp[Yd,run_underlying ht,sizeOf,typeInfo,hi,Builtin.lenOf,Builtin.firstCells,loadCells,loadCellsFrom,storeCells]
 ·obtain⟨ad,rfl,_,hc⟩:=hr.2 h0
  have hl:(Zav fs).length=m*i.size:=by rw[Zbi,hm,hs]
  have o:es.length*i.size=(Zav es).length:=by rw[Zbi,hs]
  rcases hown with ⟨rfl,rfl⟩|⟨g,sp,rfl,h2,h3,h4⟩
  ·have f:=run_append_nil (P:=P) w t ty e i _ ht hi hz ad m c (Zav fs) hl hc h0 (by omega) (by rw[hby];omega)
   have h:=grownCap_ge w m 0 e;have y:=grownCap_le_maxLen w m 0 e (by unfold maxLen;simp only[List.length_nil]at h63;omega);refine⟨_,_,f,.inr ⟨w.heap.size,grownCap w m 0 e-m,?_,hbase,?_,?_⟩,⟨rfl,rfl,rfl,by simp,λk hk _=>Below.heap_alloc w.drew _ k hk⟩⟩;rw[Yv,hm,QD h];rw[Yv,hm,QD h];exact y
   ·have:=heap_alloc_new w.drew (.cells ((Zav fs).toArray++Qn (Value.slice none 0 0).cells (grownCap w m 0 e-m)) e)
    unfold Blk;refine this.trans ?_;congr 1
    have hx:(Zav fs).toArray++Qn (Value.slice none 0 0).cells (grownCap w m 0 e-m)=Z0 ([]++fs++Qf (grownCap w m 0 e-m) Zay):=by
     apply Array.toList_inj.1;rw[QQ,show (Value.slice none 0 0).cells=#[.slice none 0 0] from rfl,Zis];simp[Z0,Zcy]
    rw[hx]
  ·by_cases hroom:m<=sp
   ·have f:=run_append_room (P:=P) w t ty e i ht hi g es.length (es.length+sp) _ h4 ad m c (Zav fs) hl hc (Zum fs) (by omega) (by rw[o,Zbi,Zbi];simp[Z0,Zbi];omega)
    refine⟨_,_,f,.inr ⟨g,sp-m,?_,h2,?_,?_⟩,⟨rfl,rfl,rfl,by simp[World.setRow],λk _ hk=>setRow_other w g k _ (λe'=>hk (by simp[Value.ownBlock,e']))⟩⟩;rw[Qt,hm,show es.length+m+(sp-m)=es.length+sp by omega];rw[Qt,hm];omega
    ·refine(setRow_heap w g _ _ e _ h4).trans ?_
     congr 2;unfold Z0;congr 1;rw[o];have I:Qf sp Zay=Qf m Zay++Qf (sp-m) Zay:=by rw[List.replicate_append_replicate];congr 1;omega
     have J:(Zav fs).length=(Zav (Qf m Zay)).length:=by rw[Zbi,Zbi,hm,List.length_replicate]
     simp only[Zcy];rw[Yh,J,<- Qt,I,Zcy,<- Yp (Zav es),List.drop_left,Yp]
   ·have C:∀ j u,(Zav es)[j]?=some u->w.cell? ((⟨g,0,none⟩:Addr).add j)=some u:=λj u hu=>by
      rw[Zg,QZ,h4.cell];simp only[Z0,List.getElem?_toArray,Zcy];rw[Qu (by rw[List.getElem?_eq_some_iff]at hu;exact hu.1)];exact hu
    have f:=run_append_grow (P:=P) w t ty e i _ ht hi hz ⟨g,0,none⟩ es.length (es.length+sp) (Zav es) o.symm C ad m c (Zav fs) hl hc (by omega) (by omega) (growslice_fits (by omega) (by rw[hby];omega));have h:=grownCap_ge w (es.length+m) (es.length+sp) e;have y:=grownCap_le_maxLen w (es.length+m) (es.length+sp) e (by unfold maxLen;omega);refine⟨_,_,f,.inr ⟨w.heap.size,grownCap w (es.length+m) (es.length+sp) e-(es.length+m),?_,hbase,?_,?_⟩,⟨rfl,rfl,rfl,by simp,λk hk _=>Below.heap_alloc w.drew _ k hk⟩⟩;rw[Qt,hm,QD h];rw[Qt,hm,QD h];exact y
    ·have:=heap_alloc_new w.drew (.cells ((Zav es).toArray++(Zav fs).toArray++Qn (Value.slice none 0 0).cells (grownCap w (es.length+m) (es.length+sp) e-(es.length+m))) e)
     unfold Blk;refine this.trans ?_;congr 1
     have hx:(Zav es).toArray++(Zav fs).toArray++Qn (Value.slice none 0 0).cells (grownCap w (es.length+m) (es.length+sp) e-(es.length+m))=Z0 (es++fs++Qf (grownCap w (es.length+m) (es.length+sp) e-(es.length+m)) Zay):=by
      apply Array.toList_inj.1;rw[QQ,QQ,show (Value.slice none 0 0).cells=#[.slice none 0 0] from rfl,Zis];simp[Z0,Zcy]
     rw[hx]
end
def Zax:Nat->(Nat->Rat)->Rat
 | 0,_=>0
 | n+1,f=>Zax n f+f n
def Zcj(i a:Nat):Nat:=if a<i then a else a+1
def sgnQ(i:Nat):Rat:=if i%2=0 then 1 else -1
def Zau:Nat->(Nat->Nat->Rat)->Rat
 | 0,_=>1
 | n+1,M=>Zax (n+1) λi=>sgnQ i*M i 0*Zau n (λa b=>M (Zcj i a) (b+1))
theorem Zan{n:Nat}{f g:Nat->Rat}(h:∀ i,i<n->f i=g i):Zax n f=Zax n g:=by
 induction n with
 | zero=>rfl
 | succ n ih=>simp only[Zax];rw[ih (λi hi=>h i (by omega)),h n (by omega)]
theorem Ze8{n:Nat}(f g:Nat->Rat)(x y:Rat):Zax n (λi=>x*f i+y*g i)=x*Zax n f+y*Zax n g:=by
 induction n with
 | zero=>simp only[Zax];grind
 | succ n ih=>simp only[Zax];rw[ih];grind
theorem Zku{n:Nat}{f:Nat->Rat}(h:∀ i,i<n->f i=0):Zax n f=0:=by
 induction n with
 | zero=>rfl
 | succ n ih=>simp only[Zax];rw[ih (λi hi=>h i (by omega)),h n (by omega)];grind
theorem Zhu{n:Nat}{f:Nat->Rat}(k:Nat)(hk:k<n)(h:∀ i,i<n->i≠k->f i=0):Zax n f=f k:=by
 induction n with
 | zero=>omega
 | succ n ih =>
  simp only[Zax];by_cases hn:k=n
  ·subst hn
   rw[Zku (λi hi=>h i (by omega) (by omega))];grind
  rw[ih (by omega) (λi hi=>h i (by omega)),h n (by omega) (by omega)];grind
theorem Zzq{n:Nat}{f:Nat->Rat}(k:Nat)(hk:k+1<n)(h:∀ i,i<n->i≠k->i≠k+1->f i=0):Zax n f=f k+f (k+1):=by
 induction n with
 | zero=>omega
 | succ n ih =>
  simp only[Zax];by_cases hn:k+1=n
  ·subst hn
   rw[Zhu k (by omega) (λi hi h2=>h i (by omega) h2 (by omega))]
  rw[ih (by omega) (λi hi=>h i (by omega)),h n (by omega) (by omega) (by omega)];grind
theorem Zq5{i a n:Nat}(ha:a<n):Zcj i a<n+1:=by unfold Zcj;split <;> omega
theorem Zyu(i a:Nat):Zcj i a≠i:=by unfold Zcj;split <;> omega
theorem Zi6{i k:Nat}(h:k≠i):Zcj i (if k<i then k else k-1)=k:=by
 unfold Zcj;by_cases h1:k<i;rw[Gx h1,Gx h1];rw[Gw h1,Gw (by omega)];omega
theorem Zx3{i a b:Nat}(h:Zcj i a=Zcj i b):a=b:=by unfold Zcj at h;split at h <;> split at h <;> omega
theorem Za4{n:Nat}{M N:Nat->Nat->Rat}(h:∀ a b,a<n->b<n->M a b=N a b):Zau n M=Zau n N:=by
 induction n generalizing M N with
 | zero=>rfl
 | succ n ih =>
  simp only[Zau];refine Zan λi hi=>?_;rw[h i 0 hi (by omega),ih (λa b ha hb=>h _ _ (Zq5 ha) (by omega))]
def Zak(M:Nat->Nat->Rat)(k:Nat)(r:Nat->Rat):Nat->Nat->Rat:=λa b=>if a=k then r b else M a b
theorem Zfu{M:Nat->Nat->Rat}{k i:Nat}{r:Nat->Rat}(h:k≠i) :
    (λa b=>Zak M k r (Zcj i a) (b+1))=Zak (λa b=>M (Zcj i a) (b+1)) (if k<i then k else k-1) (λb=>r (b+1)):=by
 funext a b
 unfold Zak;by_cases ha:a=(if k<i then k else k-1);rw[Gx ha,ha,Zi6 h,Gx rfl]
 ·rw[Gw ha,Gw]
  intro e;exact ha (Zx3 (i:=i) (by rw[e,Zi6 h]))
theorem Zfv{M:Nat->Nat->Rat}{k:Nat}{r:Nat->Rat}:(λa b=>Zak M k r (Zcj k a) (b+1))=(λa b=>M (Zcj k a) (b+1)):=by
 funext a b
 unfold Zak;rw[Gw (Zyu k a)]
theorem Zhc{n:Nat}(M:Nat->Nat->Rat){k:Nat}(hk:k<n)(r s:Nat->Rat)(x y:Rat) :
    Zau n (Zak M k (λb=>x*r b+y*s b))=x*Zau n (Zak M k r)+y*Zau n (Zak M k s):=by
 induction n generalizing M k r s with
 | zero=>omega
 | succ n ih =>
  simp only[Zau];rw[<- Ze8];refine Zan λi hi=>?_;by_cases h:k=i
  ·subst h
   rw[Zfv,Zfv,Zfv];simp only[Zak,if_true]
   grind
  ·rw[Zfu h,Zfu h,Zfu h]
   rw[ih (λa b=>M (Zcj i a) (b+1)) (k:=if k<i then k else k-1) (by split <;> omega) (λb=>r (b+1)) (λb=>s (b+1))];simp only[Zak,Gw (show ¬ i=k from λe=>h e.symm)]
   grind
theorem Zwe(i:Nat):sgnQ (i+1)=- sgnQ i:=by
 unfold sgnQ;rcases QT i with h|h;rw[Gx h,Gw (by omega)];rw[Gw (by omega:¬ i%2=0),Gx (by omega)];grind
theorem Zre{n:Nat}{M:Nat->Nat->Rat}{k:Nat}(hk:k+1<n)(h:∀ b,M (k+1) b=M k b):Zau n M=0:=by
 induction n generalizing M k with
 | zero=>omega
 | succ n ih =>
  simp only[Zau];rw[Zzq k hk]
  ·have hm:(λa b=>M (Zcj k a) (b+1))=(λa b=>M (Zcj (k+1) a) (b+1)):=by
     funext a b
     by_cases ha:a=k
     ·subst ha
      simp only[Zcj,Gw (Yi a),Gx (Ys a)];exact h _
     ·have:Zcj k a=Zcj (k+1) a:=by unfold Zcj;split <;> split <;> omega
      rw[this]
   rw[hm,h 0,Zwe];grind
  ·intro i hi h1 h2
   rw[ih (M:=λa b=>M (Zcj i a) (b+1)) (k:=if k<i then k else k-1)]
   ·grind
   ·split <;> omega
   ·intro b
    have e1:Zcj i (if k<i then k else k-1)=k:=Zi6 (Qx h1);have e2:Zcj i ((if k<i then k else k-1)+1)=k+1:=by unfold Zcj;split <;> split <;> omega
    rw[e1,e2];exact h _
theorem Zd9(M:Nat->Nat->Rat)(k:Nat):Zak M k (M k)=M:=by
 funext a b;unfold Zak;split
 rename_i h;rw[h];rfl
theorem Zca(M:Nat->Nat->Rat){k l:Nat}(h:k≠l)(r s:Nat->Rat):Zak (Zak M k r) l s=Zak (Zak M l s) k r:=by
 funext a b;unfold Zak
 by_cases h1:a=k;subst h1;simp[h];simp[h1]
theorem Zmo{n:Nat}(M:Nat->Nat->Rat){k:Nat}(hk:k<n)(r s:Nat->Rat) :
    Zau n (Zak M k (λb=>r b+s b))=Zau n (Zak M k r)+Zau n (Zak M k s):=by
 have:=Zhc M hk r s 1 1;rw[show (λb=>r b+s b)=(λb=>1*r b+1*s b) by funext b;grind,this];grind
theorem Zjs{n:Nat}{k l:Nat}(hk:k<n)(hl:l<n)(hne:k≠l)(hz:∀ (M:Nat->Nat->Rat),(∀ b,M k b=M l b)->Zau n M=0)(M:Nat->Nat->Rat)(r s:Nat->Rat) :
    Zau n (Zak (Zak M k r) l s)=- Zau n (Zak (Zak M k s) l r):=by
 have h:=hz (Zak (Zak M k (λb=>r b+s b)) l (λb=>r b+s b)) (λb=>by simp[Zak,hne]);have h1:=hz (Zak (Zak M k r) l r) (λb=>by simp[Zak,hne]);have h2:=hz (Zak (Zak M k s) l s) (λb=>by simp[Zak,hne]);rw[Zmo _ hl,Zca _ hne,Zca _ hne,Zmo _ hk,Zmo _ hk,<- Zca _ hne,<- Zca _ hne,<- Zca _ hne,<- Zca _ hne,h1,h2]at h
 grind
theorem Zld{n:Nat}:∀ (d:Nat) (M:Nat->Nat->Rat) (k:Nat),k+d+1<n->(∀ b,M k b=M (k+d+1) b)->Zau n M=0:=by
 intro d
 induction d with
 | zero=>intro M k hk h;exact Zre hk (λb=>(h b).symm)
 | succ d ih =>
  intro M k hk h;have h1:=Zjs (n:=n) (k:=k+d+1) (l:=k+d+2) (by omega) (by omega) (by omega) (λM h=>Zre (k:=k+d+1) (by omega) (λb=>(h b).symm)) M (M (k+d+1)) (M (k+d+2));rw[Zd9,Zd9]at h1;rw[h1,ih _ k (by omega)]
  ·grind
  ·intro b
   have:=h b;rw[show k+(d+1)+1=k+d+2 by omega]at this;simp only[Zak];rw[Gw (by omega),Gw (by omega),Gw (by omega)];simpa using this
theorem Zj6{n:Nat}{M:Nat->Nat->Rat}{k l:Nat}(hk:k<n)(hl:l<n)(hne:k≠l)(h:∀ b,M k b=M l b):Zau n M=0:=by
 rcases Ym hne with h1|h1;exact Zld (l-k-1) M k (by omega) (λb=>by rw[show k+(l-k-1)+1=l by omega];exact h b);exact Zld (k-l-1) M l (by omega) (λb=>by rw[show l+(k-l-1)+1=k by omega];exact(h b).symm)
theorem Zxp{n:Nat}(M:Nat->Nat->Rat){k l:Nat}(hk:k<n)(hl:l<n)(hne:k≠l):Zau n (Zak (Zak M k (M l)) l (M k))=- Zau n M:=by
 have h:=Zjs hk hl hne (λM h=>Zj6 hk hl hne h) M (M l) (M k);rw[h];congr 1;rw[Zd9];congr 1
 funext a b
 unfold Zak
 split
 rename_i h;rw[h];rfl
theorem Zrz{n:Nat}(M:Nat->Nat->Rat){k l:Nat}(hk:k<n)(hl:l<n)(hne:k≠l)(c:Rat):Zau n (Zak M k (λb=>M k b+c*M l b))=Zau n M:=by
 have h:=Zhc M hk (M k) (M l) 1 c
 rw[show (λb=>M k b+c*M l b)=(λb=>1*M k b+c*M l b) by funext b;grind,h,Zd9,
  Zj6 (M:=Zak M k (M l)) hk hl hne (λb=>by simp[Zak,Qx hne])]
 grind
theorem Znd{n:Nat}(M:Nat->Nat->Rat){l:Nat}(hl:l<n)(c:Nat->Rat):Zau n (λa b=>if a=l then M a b else M a b+c a*M l b)=Zau n M:=by
 have key:∀ m,m<=n->Zau n (λa b=>if a=l then M a b else if a<m then M a b+c a*M l b else M a b)=Zau n M:=by
  intro m
  induction m with
  | zero=>intro _;congr 1;funext a b;split <;> rfl
  | succ m ih =>
   intro hm;have h0:=ih (by omega);by_cases hml:m=l
   ·rw[<- h0];congr 1;funext a b
    by_cases ha:a=l;simp[ha]
    ·rw[Gw ha,Gw ha]
     by_cases h1:a<m;rw[Gx h1,Gx (by omega)];rw[Gw h1,Gw (by omega)]
   ·have h1:=Zrz (n:=n) (λa b=>if a=l then M a b else if a<m then M a b+c a*M l b else M a b) (k:=m) (l:=l) (by omega) hl hml (c m)
    rw[h0]at h1;rw[<- h1];congr 1;funext a b;unfold Zak;by_cases ha:a=m;subst ha;simp[hml]
    ·rw[Gw ha]
     by_cases hal:a=l;simp[hal]
     ·rw[Gw hal]
      by_cases h1:a<m;rw[Gx (by omega)];simp[hal,h1];rw[Gw (by omega)];simp[hal,h1]
 rw[<- key n (Qg _)];exact Za4 λa b ha hb=>by rw[Gx ha]
def Za7:Nat->(Nat->Rat)->Rat
 | 0,_=>1
 | n+1,f=>Za7 n f*f n
theorem Zc3{n:Nat}{f g:Nat->Rat}(h:∀ i,i<n->f i=g i):Za7 n f=Za7 n g:=by
 induction n with
 | zero=>rfl
 | succ n ih=>simp only[Za7];rw[ih (λi hi=>h i (by omega)),h n (by omega)]
theorem Zqv{n:Nat}(f:Nat->Rat):Za7 (n+1) f=f 0*Za7 n (λi=>f (i+1)):=by
 induction n generalizing f with
 | zero=>simp only[Za7];grind
 | succ n ih=>rw[Za7,ih,Za7];grind
theorem Zjy{n:Nat}{M:Nat->Nat->Rat}(h:∀ a b,a<n->b<a->M a b=0):Zau n M=Za7 n (λi=>M i i):=by
 induction n generalizing M with
 | zero=>rfl
 | succ n ih =>
  simp only[Zau];rw[Zhu 0 (by omega)]
  ·rw[Zqv,ih]
   ·have:sgnQ 0=1:=rfl
    rw[this,Zc3 (g:=λi=>M (i+1) (i+1)) (λi hi=>by simp only[Zcj];rw[Gw (by omega)])];grind
   ·intro a b ha hb
    simp only[Zcj];rw[Gw (by omega)];exact h _ _ (by omega) (by omega)
  ·intro i hi h0
   rw[h i 0 hi (by omega)];grind
def Zah(Z:List (List Int))(i j:Nat):Int:=(Z[i]?.getD [])[j]?.getD 0
def Zh(R:List (List Rat))(i j:Nat):Rat:=(R[i]?.getD [])[j]?.getD 0
def Zai{α:Type}(l:List α)(i j:Nat):List α:=match l[i]?,l[j]? with
 | some x,some y=>(l.set i y).set j x
 | _,_=>l
def Zq4(p row:List Int)(col:Nat)(piv last:Int):List Int:=(Qv row.length).map λk=>Int.fdiv (row[k]?.getD 0*piv-row[col]?.getD 0*p[k]?.getD 0) last
def Zdp(Z:List (List Int))(r col:Nat)(last:Int):List (List Int):=
 (Qv Z.length).map λi=>if i<=r then Z[i]?.getD []else Zq4 (Z[r]?.getD []) (Z[i]?.getD []) col (Zah Z r col) last
def rowR(p row:List Rat)(col:Nat):List Rat:=(Qv row.length).map λk=>if k<col then row[k]?.getD 0 else row[k]?.getD 0-row[col]?.getD 0/p[col]?.getD 0*p[k]?.getD 0
def Zcv(R:List (List Rat))(r col:Nat):List (List Rat):=(Qv R.length).map λi=>if i<=r then R[i]?.getD []else rowR (R[r]?.getD []) (R[i]?.getD []) col
def Zbo(z:Nat->Bool)(n:Nat):Nat->Nat->Nat
 | 0,k=>k
 | f+1,k=>if k<n/\z k=true then Zbo z n f (k+1)else k
def Zar:Nat->Nat->Nat->List (List Int)->Bool->Int->List (List Int) × Nat × Bool × Int
 | 0,_,r,Z,neg,last=>(Z,r,neg,last)
 | f+1,col,r,Z,neg,last =>
  if r=Z.length then (Z,r,neg,last)
  else if Zbo (λi=>Zah Z i col == 0) Z.length Z.length r=Z.length then Zar f (col+1) r Z neg last
  else Zar f (col+1) (r+1) (Zdp (Zai Z (Zbo (λi=>Zah Z i col == 0) Z.length Z.length r) r) r col last) (neg != decide (Zbo (λi=>Zah Z i col == 0) Z.length Z.length r≠r)) (Zah Z (Zbo (λi=>Zah Z i col == 0) Z.length Z.length r) col)
def Zbd:Nat->Nat->Nat->List (List Rat)->Bool->List (List Rat) × Nat × Bool
 | 0,_,r,R,neg=>(R,r,neg)
 | f+1,col,r,R,neg =>
  if r=R.length then (R,r,neg)
  else if Zbo (λi=>Zh R i col == 0) R.length R.length r=R.length then Zbd f (col+1) r R neg
  else Zbd f (col+1) (r+1) (Zcv (Zai R (Zbo (λi=>Zh R i col == 0) R.length R.length r) r) r col) (neg != decide (Zbo (λi=>Zh R i col == 0) R.length R.length r≠r))
theorem Zfc{z:Nat->Bool}{n:Nat}:∀ {f k:Nat},n<=k+f->k<=n->k<=Zbo z n f k/\Zbo z n f k<=n/\(∀ i,k<=i->i<Zbo z n f k->z i=true)/\(Zbo z n f k<n->z (Zbo z n f k)=false)
 | 0,k,h,hk=>by
  obtain rfl:k=n:=by omega
  exact⟨Qg _,Qg _,λi h1 h2=>by simp only[Zbo]at h2;omega,λh=>by simp only[Zbo]at h;omega⟩
 | f+1,k,h,hk=>by
  unfold Zbo;by_cases hc:k<n/\z k=true
  ·rw[Gx hc]
   obtain⟨h1,h2,h3,h4⟩:=Zfc (z:=z) (n:=n) (f:=f) (k:=k+1) (by omega) (by omega);refine⟨by omega,h2,λi hi1 hi2=>?_,h4⟩;by_cases hik:i=k;rw[hik];exact hc.2;exact h3 i (by omega) hi2
  ·rw[Gw hc]
   refine⟨Qg _,hk,λi h1 h2=>by omega,λhkn=>?_⟩;cases hz:z k with
   | false=>rfl
   | true=>exact absurd ⟨hkn,hz⟩ hc
theorem Zl1{z:Nat->Bool}{n f k q:Nat}(h:n<=k+f)(hk:k<=q)(hq:q<=n)(h1:∀ i,k<=i->i<q->z i=true)(h2:q<n->z q=false):Zbo z n f k=q:=by
 obtain⟨a,b,c,d⟩:=Zfc (z:=z) h (Qo hk hq);rcases Nat.lt_trichotomy (Zbo z n f k) q with h3|h3|h3;have:=d (by omega);rw[h1 _ a h3]at this;cases this;exact h3;have:=c q hk h3;rw[h2 (by omega)]at this;cases this
theorem Zrf{y z:Nat->Bool}{n f k:Nat}(h:n<=k+f)(hk:k<=n)(he:∀ i,k<=i->i<n->y i=z i):Zbo y n f k=Zbo z n f k:=by
 obtain⟨a,b,c,d⟩:=Zfc (z:=z) h hk;exact Zl1 h a b (λi h1 h2=>by rw[he i h1 (by omega)];exact c i h1 h2) (λh1=>by rw[he _ a h1];exact d h1)
def BndQ(B:Nat)(q:Rat):Prop:=∃ z:Int,q=(z:Rat)/\z.natAbs<=B
theorem BndQ.add{B C:Nat}{p q:Rat}(h:BndQ B p)(k:BndQ C q):BndQ (B+C) (p+q):=by
 obtain⟨a,rfl,h1⟩:=h;obtain⟨b,rfl,h2⟩:=k;exact⟨a+b,by rw[Rat.intCast_add],by omega⟩
theorem BndQ.mul{B C:Nat}{p q:Rat}(h:BndQ B p)(k:BndQ C q):BndQ (B*C) (p*q):=by
 obtain⟨a,rfl,h1⟩:=h;obtain⟨b,rfl,h2⟩:=k;exact⟨a*b,by rw[QF],by rw[Int.natAbs_mul];exact QA h1 h2⟩
theorem BndQ.mono{B C:Nat}{q:Rat}(h:BndQ B q)(hBC:B<=C):BndQ C q:=by obtain⟨a,h1,h2⟩:=h;exact⟨a,h1,by omega⟩
def Zbn(B:Nat):Nat->Nat
 | 0=>1
 | n+1=>(n+1)*(B*Zbn B n)
theorem Zsn{B n:Nat}{f:Nat->Rat}(h:∀ i,i<n->BndQ B (f i)):BndQ (n*B) (Zax n f):=by
 induction n with
 | zero=>exact⟨0,rfl,by simp⟩
 | succ n ih=>rw[Nat.succ_mul];exact(ih λi hi=>h i (by omega)).add (h n (by omega))
theorem Z0c(i:Nat):BndQ 1 (sgnQ i):=by unfold sgnQ;split;exact⟨1,rfl,by decide⟩;exact⟨-1,rfl,by decide⟩
theorem Zhj{B n:Nat}{M:Nat->Nat->Rat}(h:∀ a b,a<n->b<n->BndQ B (M a b)):BndQ (Zbn B n) (Zau n M):=by
 induction n generalizing M with
 | zero=>exact⟨1,rfl,by simp[Zbn]⟩
 | succ n ih =>
  simp only[Zau,Zbn];refine Zsn λi hi=>?_;have:=((Z0c i).mul (h i 0 hi (by omega))).mul (ih (M:=λa b=>M (Zcj i a) (b+1)) λa b ha hb=>h _ _ (Zq5 ha) (by omega))
  rwa [Nat.one_mul]at this
theorem Zcz{B m n:Nat}(hB:1<=B)(h:m<=n):Zbn B m<=Zbn B n:=by
 induction n with
 | zero=>obtain rfl:m=0:=by omega
         exact Qg _
 | succ n ih =>
  by_cases hm:m=n+1;rw[hm];exact Qg _
  ·refine Qo (ih (by omega)) ?_
   simp only[Zbn]
   calc Zbn B n=1*(1*Zbn B n):=by simp
    _<=(n+1)*(B*Zbn B n):=QA (by omega) (QA hB (Qg _))
def swI(k r i:Nat):Nat:=if i=k then r else if i=r then k else i
theorem Zp8(k r i:Nat):swI k r (swI k r i)=i:=by
 unfold swI;by_cases h1:i=k
 ·subst h1
  by_cases h2:i=r;simp[h2];simp[Qx h2]
 ·by_cases h2:i=r
  subst h2;simp[h1];simp[h1,h2]
theorem Zds{α:Type}{l:List α}{k r:Nat}(hk:k<l.length)(hr:r<l.length)(i:Nat):(Zai l k r)[i]?=l[swI k r i]?:=by
 unfold Zai;rw[Qe hk,Qe hr];simp only;unfold swI;rw[Yq,Yq,List.length_set];by_cases h1:r=i
 ·subst h1
  rw[Gx rfl,Gx hr];by_cases h2:r=k;subst h2;simp[hr];rw[Gw h2,Gx rfl,Qe hk]
 ·rw[Gw h1]
  by_cases h2:k=i;subst h2;simp[hk,hr];rw[Gw h2,Gw (Qx h2),Gw (Qx h1)]
theorem Zec{α:Type}(l:List α)(k r:Nat):(Zai l k r).length=l.length:=by unfold Zai;split <;> simp
theorem Zhr{k r i n:Nat}(hk:k<n)(hr:r<n)(hi:i<n):swI k r i<n:=by unfold swI;split <;> (try split) <;> omega
structure EIR (B S n m col r:Nat) (R:List (List Rat)) (pc:Nat->Nat) (G:Nat->Nat->Rat) (s:Nat->Rat):Prop where
 len:R.length=n
 row:∀ i,i<n->(R[i]?.getD []).length=m
 pcl:∀ l,l<r->pc l<col
 inc:∀ l l',l<l'->l'<r->pc l<pc l'
 low:∀ i j,r<=i->i<n->j<col->Zh R i j=0
 bef:∀ l j,l<r->j<pc l->Zh R l j=0
 piv:∀ l,l<r->Zh R l (pc l)≠0
 rn:r<=n
 cm:col<=m
 sB:∀ i,i<n->BndQ S (s i)/\s i≠0
 gB:∀ i j,i<n->BndQ B (G i j)
 det:∀ (N:Nat) (f σ:Nat->Nat),(∀ a,a<N->σ a<n)->(∀ a,a<r->σ a=a)->(∀ a,r<=a->r<=σ a)->Zau N (λa b=>s (σ a)*Zh R (σ a) (f b))=Zau N (λa b=>G (σ a) (f b))
def Zeu(R:List (List Rat))(pc:Nat->Nat)(s:Nat->Rat)(l:Nat):Rat:=Za7 l (λi=>s i*Zh R i (pc i))
section
variable{B S n m col r:Nat}{R:List (List Rat)}{pc:Nat->Nat}{G:Nat->Nat->Rat}{s:Nat->Rat}
theorem EIR.minor_eq(h:EIR B S n m col r R pc G s){i:Nat}(hi:i<n)(j:Nat) :
    Zeu R pc s (min i r)*(s i*Zh R i j)=Zau (min i r+1) (λa b=>G (if a<min i r then a else i) (if b<min i r then pc b else j)):=by
 obtain⟨q,hq⟩:∃ q,q=min i r:=⟨_,rfl⟩;rw[<- hq];have e:=h.rn
 have hd:=h.det (q+1) (λb=>if b<q then pc b else j) (λa=>if a<r then a else if i<r then a else i)
  (λa ha=>by
   by_cases h1:a<r;rw[Gx h1];omega
   ·rw[Gw h1];by_cases h2:i<r
    omega
    ·rw[Gw h2];exact hi) (λa ha=>by rw[Gx ha]) (λa ha=>by
   rw[Gw (by omega)];by_cases h2:i<r;rw[Gx h2];exact ha
   ·rw[Gw h2];omega)
 have hσ:∀ a,a<q+1->(if a<r then a else if i<r then a else i)=if a<q then a else i:=by
  intro a ha;by_cases h1:a<q;rw[Gx h1,Gx (by omega)]
  ·rw[Gw h1]
   by_cases h2:i<r;rw[Gx (by omega)];omega;rw[Gw (by omega),Gw h2]
 rw[<- Za4 (M:=λa b=>G (if a<r then a else if i<r then a else i) (if b<q then pc b else j)) (N:=λa b=>G (if a<q then a else i) (if b<q then pc b else j)) (λa b ha hb=>by rw[hσ a ha])];rw[<- hd,Zjy]
 ·rw[Za7]
  unfold Zeu;congr 1
  ·refine Zc3 λa ha=>?_
   rw[Gx ha,Gx (by omega)]
  ·rw[Gw (Yi q)]
   have:=hσ q (Ys q);rw[Gw (Yi q)]at this;rw[this]
 ·intro a b ha hb
  rw[Gx (by omega:b<q),hσ a ha];by_cases h1:a<q;rw[Gx h1,h.bef a (pc b) (by omega) (h.inc b a hb (by omega))];grind
  ·rw[Gw h1]
   by_cases h2:i<r;rw[h.bef i (pc b) h2 (h.inc b i (by omega) h2)];grind;rw[h.low i (pc b) (by omega) hi (h.pcl b (by omega))];grind
theorem EIR.minor(h:EIR B S n m col r R pc G s){i:Nat}(hi:i<n)(j:Nat):BndQ (Zbn B (min i r+1)) (Zeu R pc s (min i r)*(s i*Zh R i j)):=by
 rw[h.minor_eq hi j];refine Zhj λa b ha hb=>h.gB _ _ ?_
 split <;> omega
theorem EIR.piv_ne(h:EIR B S n m col r R pc G s){l:Nat}(hl:l<=r):Zeu R pc s l≠0:=by
 induction l with
 | zero=>unfold Zeu Za7;grind
 | succ l ih =>
  have h1:=ih (by omega);have h2:=h.piv l (by omega);have h3:=(h.sB l (by have:=h.rn;omega)).2;unfold Zeu at h1 ⊢;rw[Za7];intro h0;rcases Rat.mul_eq_zero.1 h0 with h0|h0;exact h1 h0
  ·rcases Rat.mul_eq_zero.1 h0 with h0|h0
   exact h3 h0;exact h2 h0
theorem EIR.pivL_bnd(h:EIR B S n m col r R pc G s){l:Nat}(hl:l<=r):BndQ (Zbn B l) (Zeu R pc s l):=by
 cases l with
 | zero=>exact⟨1,rfl,by simp[Zbn]⟩
 | succ l =>
  have h1:=h.minor (i:=l) (by have:=h.rn;omega) (pc l);rw[show min l r=l by omega]at h1;unfold Zeu at h1 ⊢;rw[Za7];exact h1
theorem numQ_le(a b:Int)(h:b≠0):(Rat.divInt a b).num.natAbs<=a.natAbs:=by
 rw[Rat.num_divInt,Int.natAbs_ediv_of_dvd]
 ·refine Qo (Ye _ _) ?_
  rw[Int.natAbs_mul];rcases Int.lt_or_gt_of_ne h with g|g;rw[Int.sign_eq_neg_one_of_neg g];simp;rw[Int.sign_eq_one_of_pos g];simp
 exact Int.dvd_trans (Int.gcd_dvd_right _ _) (Int.dvd_mul_left _ _)
theorem Ze0{B C:Nat}{p q:Rat}(h:BndQ B (q*p))(k:BndQ C q)(hq:q≠0):p.num.natAbs<=B/\p.den<=C:=by
 obtain⟨a,h1,h2⟩:=h;obtain⟨b,h3,h4⟩:=k;have hb:b≠0:=by rintro rfl;rw[h3]at hq;exact hq rfl
 have hp:p=Rat.divInt a b:=by
  rw[Yr,<- h1,h3];have:(b:Rat)≠0:=by rw[<- h3];exact hq
  grind
 rw[hp];constructor;exact Qo (numQ_le a b hb) h2
 ·rw[Rat.den_divInt,Gw hb]
  exact Qo (Ye _ _) h4
theorem EIR.bound(h:EIR B S n m col r R pc G s)(hB:1<=B){i:Nat}(hi:i<n)(j:Nat):(Zh R i j).num.natAbs<=Zbn B n/\(Zh R i j).den<=Zbn B n*S:=by
 have h1:=h.minor hi j;have h2:=h.pivL_bnd (l:=min i r) (by omega);have h3:=h.sB i hi;have h4:=h.piv_ne (l:=min i r) (by omega);rw[<- Rat.mul_assoc]at h1
 have h5:=Ze0 h1 (h2.mul h3.1) (λh0=>by
  rcases Rat.mul_eq_zero.1 h0 with h0|h0;exact h4 h0
  ·exact h3.2 h0)
 have h6:=Zcz hB (show min i r+1<=n by omega);have h7:=Zcz hB (show min i r<=n by omega);exact⟨by omega,Qo h5.2 (QA h7 (Qg _))⟩
theorem Zh9{k r:Nat}(hk:k<R.length)(hr:r<R.length)(i j:Nat):Zh (Zai R k r) i j=Zh R (swI k r i) j:=by
 unfold Zh;rw[Zds hk hr]
theorem Zmd{k r i:Nat}(hk:r<=k)(hi:i<r):swI k r i=i:=by unfold swI;rw[Gw (by omega),Gw (by omega)]
theorem Zqh{k r i:Nat}(hk:r<=k)(hi:r<=i):r<=swI k r i:=by unfold swI;split <;> (try split) <;> omega
theorem EIR.skip(h:EIR B S n m col r R pc G s)(hc:col<m)(hz:∀ i,r<=i->i<n->Zh R i col=0):EIR B S n m (col+1) r R pc G s:=
 { h with
  pcl:=λl hl=>by have:=h.pcl l hl;omega
  cm:=hc
  low:=λi j hi hn hj=>by
   by_cases hjc:j=col;rw[hjc];exact hz i hi hn
   ·exact h.low i j hi hn (by omega) }
theorem EIR.swap(h:EIR B S n m col r R pc G s){k:Nat}(hk:k<n)(hrk:r<=k):EIR B S n m col r (Zai R k r) pc (λi j=>G (swI k r i) j) (λi=>s (swI k r i)):=by
 have hr:r<n:=by omega
 have hl:=h.len;have he:∀ i j,Zh (Zai R k r) i j=Zh R (swI k r i) j:=Zh9 (by omega) (by omega);have e:∀ {i},i<n->swI k r i<n:=λhi=>Zhr hk hr hi;refine⟨by rw[Zec];exact hl,λi hi=>by rw[Zds (by omega) (by omega)];exact h.row _ (e hi),h.pcl,h.inc,λi j hi hn hj=>?_,λl j hl' hj=>?_,λl hl'=>?_,h.rn,h.cm,λi hi=>h.sB _ (e hi),λi j hi=>h.gB _ _ (e hi),λN f σ h1 h2 h3=>?_⟩;rw[he];exact h.low _ _ (Zqh hrk hi) (e hn) hj;rw[he,Zmd hrk hl'];exact h.bef l j hl' hj;rw[he,Zmd hrk hl'];exact h.piv l hl'
 ·have:=h.det N f (λa=>swI k r (σ a)) (λa ha=>e (h1 a ha)) (λa ha=>by rw[h2 a ha,Zmd hrk ha]) (λa ha=>Zqh hrk (h3 a ha))
  rw[<- this];exact Za4 λa b _ _=>by rw[he]
theorem Zgq(hrow:∀ i,i<R.length->(R[i]?.getD []).length=m)(hlow:∀ j,j<col->Zh R r j=0)(i j:Nat)(hi:i<R.length)(hr:r<R.length) :
    Zh (Zcv R r col) i j=if i<=r then Zh R i j else Zh R i j-Zh R i col/Zh R r col*Zh R r j:=by
 unfold Zcv;show ((List.map _ (Qv R.length))[i]?.getD [])[j]?.getD 0=_;rw[Qi,Qr hi];simp only[Qp,Qj];by_cases h1:i<=r;rw[Gx h1,Gx h1];rfl
 ·rw[Gw h1,Gw h1]
  unfold rowR;rw[Qi];by_cases hj:j<(R[i]?.getD []).length
  ·rw[Qr hj]
   simp only[Qp,Qj];by_cases hjc:j<col
   ·rw[Gx hjc,hlow j hjc]
    show Zh R i j=_
    grind
   rw[Gw hjc];rfl
  ·rw[Qk (l:=Qv _) (by simpa using hj)]
   simp only[Yf,Yb];have e1:Zh R i j=0:=by unfold Zh;rw[Qk (by omega)];rfl
   have e2:Zh R r j=0:=by unfold Zh;rw[Qk (by rw[hrow i hi]at hj;rw[hrow r hr];omega)];rfl
   rw[e1,e2];grind
theorem Zma:(Zcv R r col).length=R.length:=by unfold Zcv;simp
theorem Zmx(i:Nat)(hi:i<R.length):((Zcv R r col)[i]?.getD []).length=(R[i]?.getD []).length:=by
 unfold Zcv;rw[Qi,Qr hi];simp only[Qp,Qj]
 split
 rfl;unfold rowR;simp
theorem EIR.clear(h:EIR B S n m col r R pc G s)(hc:col<m)(hr:r<n)(hp:Zh R r col≠0):EIR B S n m (col+1) (r+1) (Zcv R r col) (λl=>if l=r then col else pc l) G s:=by
 have hl:=h.len
 have he:∀ i j,i<n->Zh (Zcv R r col) i j=if i<=r then Zh R i j else Zh R i j-Zh R i col/Zh R r col*Zh R r j:=
  λi j hi=>Zgq (m:=m) (λi hi=>h.row i (by omega)) (λj hj=>h.low r j (Qg _) hr hj) i j (by omega) (by omega)
 refine⟨by rw[Zma];exact hl,λi hi=>by rw[Zmx i (by omega)];exact h.row i hi,λl hl'=>?_,λl l' h1 h2=>?_,λi j hi hn hj=>?_,λl j hl' hj=>?_,λl hl'=>?_,hr,hc,h.sB,h.gB,λN f σ h1 h2 h3=>?_⟩
 ·split
  omega;have:=h.pcl l (by omega);omega
 ·rw[Gw (by omega:¬ l=r)]
  split
  exact h.pcl l (by omega);exact h.inc l l' h1 (by omega)
 ·rw[he i j hn,Gw (by omega)]
  by_cases hjc:j=col;rw[hjc];grind;rw[h.low i j (by omega) hn (by omega),h.low r j (Qg _) hr (by omega)];grind
 ·rw[he l j (by omega),Gx (by omega)]
  by_cases hlr:l=r
  ·rw[hlr];simp only[hlr,if_true]at hj
   exact h.low r j (Qg _) hr hj
  ·simp only[Gw hlr]at hj
   exact h.bef l j (by omega) hj
 ·rw[he l _ (by omega),Gx (by omega)]
  by_cases hlr:l=r;simp only[hlr,if_true];exact hp;simp only[Gw hlr];exact h.piv l (by omega)
 ·rw[<- h.det N f σ h1 (λa ha=>h2 a (by omega)) (λa ha=>by
    by_cases har:a=r;rw[har,h2 r (by omega)];exact Qg _
    ·have:=h3 a (by omega);omega)]
  by_cases hN:N<=r
  ·refine Za4 λa b ha hb=>?_
   rw[he _ _ (h1 a ha),Gx];rw[h2 a (by omega)];omega
  ·have hσr:σ r=r:=h2 r (by omega)
   rw[<- Znd (λa b=>s (σ a)*Zh R (σ a) (f b)) (l:=r) (n:=N) (by omega) (λa=>if a<=r then 0 else-(s (σ a)*Zh R (σ a) col/(s r*Zh R r col)))];refine Za4 λa b ha hb=>?_;rw[he _ _ (h1 a ha)];by_cases har:a<=r
   ·rw[h2 a (by omega),Gx har]
    simp only[Gx har]
    split
    rfl
    ·grind
   ·have:=h3 a (by omega)
    rw[Gw (by omega),Gw (by omega),Gw har,hσr];have hs:=(h.sB r hr).2
    grind
structure EIZ (n m r:Nat) (R:List (List Rat)) (pc:Nat->Nat) (s:Nat->Rat) (Z:List (List Int)) (last:Int):Prop where
 len:Z.length=n
 row:∀ i,i<n->(Z[i]?.getD []).length=m
 last:(last:Rat)=Zeu R pc s r
 ent:∀ i j,i<n->(Zah Z i j:Rat)=Zeu R pc s (min i r)*(s i*Zh R i j)
theorem Znh{R':List (List Rat)}{pc':Nat->Nat}{s':Nat->Rat}{l:Nat}(h:∀ i,i<l->s i*Zh R i (pc i)=s' i*Zh R' i (pc' i)):Zeu R pc s l=Zeu R' pc' s' l:=Zc3 h
theorem Zgn{a b:Int}(h:(a:Rat)=(b:Rat)):a=b:=by exact_mod_cast h
theorem EIZ.last_ne{Z:List (List Int)}{last:Int}(h:EIR B S n m col r R pc G s)(k:EIZ n m r R pc s Z last):last≠0:=by
 rintro rfl;exact h.piv_ne (Qg r) (k.last.symm.trans rfl)
theorem EIZ.last_bnd{Z:List (List Int)}{last:Int}(h:EIR B S n m col r R pc G s)(k:EIZ n m r R pc s Z last)(hB:1<=B):last.natAbs<=Zbn B n:=by
 obtain⟨z,h1,h2⟩:=h.pivL_bnd (Qg r);rw[<- k.last]at h1;rw[Zgn h1];exact Qo h2 (Zcz hB h.rn)
theorem EIZ.bnd{Z:List (List Int)}{last:Int}(h:EIR B S n m col r R pc G s)(k:EIZ n m r R pc s Z last)(hB:1<=B){i:Nat}(hi:i<n)(j:Nat):(Zah Z i j).natAbs<=Zbn B n:=by
 obtain⟨z,h1,h2⟩:=h.minor hi j;rw[<- k.ent i j hi]at h1;rw[Zgn h1];exact Qo h2 (Zcz hB (by omega))
theorem EIZ.zero{Z:List (List Int)}{last:Int}(h:EIR B S n m col r R pc G s)(k:EIZ n m r R pc s Z last){i:Nat}(hi:i<n)(j:Nat):(Zah Z i j == 0)=(Zh R i j == 0):=by
 have h1:=k.ent i j hi;have h2:=h.piv_ne (l:=min i r) (by omega);have h3:=(h.sB i hi).2;by_cases h0:Zh R i j=0
 ·rw[h0]at h1 ⊢
  have:Zah Z i j=0:=Zgn (by rw[h1];grind);rw[this];rfl
 ·have:Zah Z i j≠0:=by
    intro hz;rw[hz]at h1;rcases Rat.mul_eq_zero.1 h1.symm with h4|h4;exact h2 h4
    ·rcases Rat.mul_eq_zero.1 h4 with h4|h4
     exact h3 h4;exact h0 h4
  rw[beq_eq_false_iff_ne.2 this,beq_eq_false_iff_ne.2 h0]
theorem Zh1{Z:List (List Int)}{k r:Nat}(hk:k<Z.length)(hr:r<Z.length)(i j:Nat):Zah (Zai Z k r) i j=Zah Z (swI k r i) j:=by
 unfold Zah;rw[Zds hk hr]
theorem EIZ.swap{Z:List (List Int)}{last:Int}(h:EIR B S n m col r R pc G s)(q:EIZ n m r R pc s Z last){k:Nat}(hk:k<n)(hrk:r<=k):EIZ n m r (Zai R k r) pc (λi=>s (swI k r i)) (Zai Z k r) last:=by
 have hr:r<n:=by omega
 have hl:=h.len;have e:=q.len;have he:∀ i j,Zh (Zai R k r) i j=Zh R (swI k r i) j:=Zh9 (by omega) (by omega);have hp:∀ l,l<=r->Zeu (Zai R k r) pc (λi=>s (swI k r i)) l=Zeu R pc s l:=λl hl=>Znh λi hi=>by rw[he,Zmd hrk (by omega)]
 refine⟨by rw[Zec];exact e,λi hi=>by rw[Zds (by omega) (by omega)];exact q.row _ (Zhr hk hr hi),?_,λi j hi=>?_⟩;rw[hp r (Qg r)];exact q.last
 ·rw[hp _ (by omega),he,Zh1 (by omega) (by omega),q.ent _ j (Zhr hk hr hi)]
  have:min (swI k r i) r=min i r:=by
   by_cases hir:i<r;rw[Zmd hrk hir];have:=Zqh (i:=i) hrk (by omega);omega
  rw[this]
theorem Zty{Z:List (List Int)}{last:Int}(hrow:∀ i,i<Z.length->(Z[i]?.getD []).length=m)(i j:Nat)(hi:i<Z.length) :
    Zah (Zdp Z r col last) i j=if i<=r then Zah Z i j else if j<m then Int.fdiv (Zah Z i j*Zah Z r col-Zah Z i col*Zah Z r j) last else 0:=by
 unfold Zdp;show ((List.map _ (Qv Z.length))[i]?.getD [])[j]?.getD 0=_;rw[Qi,Qr hi];simp only[Qp,Qj];by_cases h1:i<=r;rw[Gx h1,Gx h1];rfl
 ·rw[Gw h1,Gw h1]
  unfold Zq4;rw[Qi];by_cases hj:j<(Z[i]?.getD []).length;rw[Qr hj,Gx (by rw[hrow i hi]at hj;exact hj)];rfl;rw[Qk (l:=Qv _) (by simpa using hj),Gw (by rw[hrow i hi]at hj;exact hj)];rfl
theorem Zix{Z:List (List Int)}{last:Int}:(Zdp Z r col last).length=Z.length:=by unfold Zdp;simp
theorem Zuk{Z:List (List Int)}{last:Int}(i:Nat)(hi:i<Z.length):((Zdp Z r col last)[i]?.getD []).length=(Z[i]?.getD []).length:=by
 unfold Zdp;rw[Qi,Qr hi];simp only[Qp,Qj]
 split
 rfl;unfold Zq4;simp
theorem Zrj(hrow:∀ i,i<n->(R[i]?.getD []).length=m){i j:Nat}(hi:i<n)(hj:m<=j):Zh R i j=0:=by
 unfold Zh;rw[Qk (by rw[hrow i hi];exact hj)];rfl
theorem EIZ.clear{Z:List (List Int)}{last:Int}(h:EIR B S n m col r R pc G s)(q:EIZ n m r R pc s Z last)(hc:col<m)(hr:r<n)(hp:Zh R r col≠0) :
    EIZ n m (r+1) (Zcv R r col) (λl=>if l=r then col else pc l) s (Zdp Z r col last) (Zah Z r col):=by
 have hl:=h.len;have y:=q.len;have h':=h.clear hc hr hp
 have he:∀ i j,i<n->Zh (Zcv R r col) i j=if i<=r then Zh R i j else Zh R i j-Zh R i col/Zh R r col*Zh R r j:=
  λi j hi=>Zgq (m:=m) (λi hi=>h.row i (by omega)) (λj hj=>h.low r j (Qg _) hr hj) i j (by omega) (by omega)
 have o:∀ l,l<=r->Zeu (Zcv R r col) (λl=>if l=r then col else pc l) s l=Zeu R pc s l:=λl hl=>Znh λi hi=>by
  rw[he _ _ (by omega),Gx (by omega),Gw (by omega)]
 have e:Zeu (Zcv R r col) (λl=>if l=r then col else pc l) s (r+1)=Zeu R pc s r*(s r*Zh R r col):=by
  rw[Zeu,Za7];have:=o r (Qg r);unfold Zeu at this;rw[this,he _ _ hr,Gx (Qg r),Gx rfl];rfl
 refine⟨by rw[Zix];exact y,λi hi=>by rw[Zuk i (by omega)];exact q.row i hi,?_,λi j hi=>?_⟩;rw[e,q.ent r col hr,show min r r=r by omega]
 ·rw[Zty (m:=m) (λi hi=>q.row i (by omega)) i j (by omega)]
  by_cases hir:i<=r;rw[Gx hir,o _ (by omega),he _ _ hi,Gx hir,q.ent i j hi,show min i (r+1)=min i r by omega]
  ·rw[Gw hir]
   by_cases hj:j<m
   ·rw[Gx hj]
    obtain⟨z,f,-⟩:=h'.minor hi j;rw[show min i (r+1)=r+1 by omega,e,he _ _ hi,Gw hir]at f;have C:=q.last_ne h;have e1:=q.ent i j hi;have e2:=q.ent r col hr;have e3:=q.ent i col hi;have e4:=q.ent r j hr;have e5:=q.last;rw[show min i r=r by omega]at e1 e3;rw[show min r r=r by omega]at e2 e4
    have u:Zah Z i j*Zah Z r col-Zah Z i col*Zah Z r j=last*z:=Zgn (by
     rw[Rat.intCast_sub,QF,QF,QF,e1,e2,e3,e4,e5,<- f]
     grind)
    rw[u,Int.mul_comm,Int.mul_fdiv_cancel _ C,<- f,show min i (r+1)=r+1 by omega,e,he _ _ hi,Gw hir]
   ·rw[Gw hj,Zrj (n:=n) h'.row hi (by omega)]
    have:((0:Int):Rat)=0:=rfl;rw[this];grind
end
def BdZ(C m:Nat)(Z:List (List Int)):Prop:=(∀ i,i<Z.length->(Z[i]?.getD []).length=m)/\∀ i j,(Zah Z i j).natAbs<C
def BdR(C D m:Nat)(R:List (List Rat)):Prop:=(∀ i,i<R.length->(R[i]?.getD []).length=m)/\∀ i j,(Zh R i j).num.natAbs<C/\(Zh R i j).den<D
def okZ(C m:Nat):Nat->Nat->Nat->List (List Int)->Int->Prop
 | 0,_,_,Z,last=>BdZ C m Z/\last≠0/\last.natAbs<C
 | f+1,col,r,Z,last=>BdZ C m Z/\(last≠0/\last.natAbs<C)/\(r=Z.length \/
     (Zbo (λi=>Zah Z i col == 0) Z.length Z.length r=Z.length->okZ C m f (col+1) r Z last) /\
     (Zbo (λi=>Zah Z i col == 0) Z.length Z.length r≠Z.length->okZ C m f (col+1) (r+1) (Zdp (Zai Z (Zbo (λi=>Zah Z i col == 0) Z.length Z.length r) r) r col last) (Zah Z (Zbo (λi=>Zah Z i col == 0) Z.length Z.length r) col)))
def okR(C D m:Nat):Nat->Nat->Nat->List (List Rat)->Prop
 | 0,_,_,R=>BdR C D m R
 | f+1,col,r,R=>BdR C D m R/\(r=R.length \/
     (Zbo (λi=>Zh R i col == 0) R.length R.length r=R.length->okR C D m f (col+1) r R) /\
     (Zbo (λi=>Zh R i col == 0) R.length R.length r≠R.length->okR C D m f (col+1) (r+1) (Zcv (Zai R (Zbo (λi=>Zh R i col == 0) R.length R.length r) r) r col)))
def sgB(b:Bool):Rat:=if b then -1 else 1
theorem Zw8{n k r:Nat}(f:Nat->Rat)(hk:k<n)(hr:r<n):Za7 n (λi=>f (swI k r i))=Za7 n f:=by
 by_cases e:k=r
 ·subst e;refine Zc3 λi _=>?_
  unfold swI;split;rename_i h;rw[h];rfl
 ·have key:∀ n (f:Nat->Rat) k r,k<r->r<n->Za7 n (λi=>f (swI k r i))=Za7 n f:=by
    intro n
    induction n with
    | zero=>intro f k r _ h;omega
    | succ n ih =>
     intro f k r e hr;by_cases hrn:r=n
     ·subst hrn
      have o:∀ (m:Nat) (g h:Nat->Rat),k<m->(∀ i,i<m->i≠k->g i=h i)->Za7 m g*h k=Za7 m h*g k:=by
       intro m
       induction m with
       | zero=>intro g h hk _;omega
       | succ m ihm =>
        intro g h hk he;simp only[Za7];by_cases hkm:k=m
        ·subst hkm
         rw[Zc3 (f:=g) (g:=h) (λi hi=>he i (by omega) (by omega))];grind
        ·have:=ihm g h (by omega) (λi hi=>he i (by omega))
         rw[he m (by omega) (by omega)];grind
      simp only[Za7];have e1:swI k r r=k:=by unfold swI;rw[Gw (by omega),Gx rfl]
      have e2:swI k r k=r:=by unfold swI;rw[Gx rfl]
      have:=o r (λi=>f (swI k r i)) f e (λi hi hik=>by unfold swI;rw[Gw hik,Gw (by omega)]);simp only[e2]at this;rw[e1];exact this
     ·simp only[Za7]
      rw[ih f k r e (by omega)];have:swI k r n=n:=by unfold swI;rw[Gw (by omega),Gw (by omega)]
      rw[this]
  rcases Ym e with h|h;exact key n f k r h hr
  ·have:∀ i,swI k r i=swI r k i:=λi=>by unfold swI;split <;> split <;> omega
   rw[<- key n f r k h hk];exact Zc3 λi _=>by rw[this]
theorem Z0f{n k r:Nat}(M:Nat->Nat->Rat)(hk:k<n)(hr:r<n):Zau n (λa b=>M (swI k r a) b)=if k=r then Zau n M else-Zau n M:=by
 by_cases hkr:k=r
 ·subst hkr
  rw[Gx rfl];refine Za4 λa b _ _=>?_;unfold swI;split;rename_i h;rw[h];rfl
 ·rw[Gw hkr,<- Zxp M hk hr hkr]
  congr 1
  funext a b
  unfold swI Zak;by_cases h1:a=k;subst h1;rw[Gx rfl,Gw hkr,Gx rfl]
  ·rw[Gw h1]
   by_cases h2:a=r;rw[Gx h2,Gx h2];rw[Gw h2,Gw h2,Gw h1]
theorem EIR.bdR{B S n m col r:Nat}{R:List (List Rat)}{pc:Nat->Nat}{G:Nat->Nat->Rat}{s:Nat->Rat}(h:EIR B S n m col r R pc G s)(hB:1<=B)(hS:1<=S):BdR (Zbn B n+1) (Zbn B n*S+1) m R:=by
 have hl:=h.len;refine⟨λi hi=>h.row i (by omega),λi j=>?_⟩;by_cases hi:i<n;have:=h.bound hB hi j;omega
 ·have:Zh R i j=0:=by unfold Zh;rw[Qk (l:=R) (by omega)];rfl
  have h1:1<=Zbn B n:=Zcz (m:=0) hB (by omega);have h2:1*1<=Zbn B n*S:=QA h1 hS;rw[this];refine⟨by simp,?_⟩;rw[show (0:Rat).den=1 from rfl];omega
theorem EIZ.bdZ{B S n m col r:Nat}{R:List (List Rat)}{pc:Nat->Nat}{G:Nat->Nat->Rat}{s:Nat->Rat}{Z:List (List Int)}{last:Int}(h:EIR B S n m col r R pc G s)(k:EIZ n m r R pc s Z last)(hB:1<=B):BdZ (Zbn B n+1) m Z:=by
 have hl:=k.len;refine⟨λi hi=>k.row i (by omega),λi j=>?_⟩;by_cases hi:i<n;have:=k.bnd h hB hi j;omega
 ·have:Zah Z i j=0:=by unfold Zah;rw[Qk (l:=Z) (by omega)];rfl
  rw[this];simp
theorem Zkq{B S n m:Nat}(hB:1<=B)(hS:1<=S):∀ (f col r:Nat) (R:List (List Rat)) (pc:Nat->Nat) (G:Nat->Nat->Rat) (s:Nat->Rat) (Z:List (List Int)) (neg:Bool) (last:Int),
    EIR B S n m col r R pc G s->EIZ n m r R pc s Z last->col+f<=m ->
    okZ (Zbn B n+1) m f col r Z last/\okR (Zbn B n+1) (Zbn B n*S+1) m f col r R /\
    (Zar f col r Z neg last).2.1=(Zbd f col r R neg).2.1/\(Zar f col r Z neg last).2.2.1=(Zbd f col r R neg).2.2 /\
    ∃ e u G' s',EIR B S n m e (Zbd f col r R neg).2.1 (Zbd f col r R neg).1 u G' s'/\EIZ n m (Zbd f col r R neg).2.1 (Zbd f col r R neg).1 u s' (Zar f col r Z neg last).1 (Zar f col r Z neg last).2.2.2 /\
     (e=col+f \/ (Zbd f col r R neg).2.1=n/\e<=col+f)/\Za7 n s'=Za7 n s/\(∀ φ:Nat->Nat,sgB (Zbd f col r R neg).2.2*Zau n (λa b=>G' a (φ b))=sgB neg*Zau n (λa b=>G a (φ b)))
 | 0,col,r,R,pc,G,s,Z,neg,last,h,k,hm=>by
  have h1:=k.last_bnd h hB;exact⟨⟨k.bdZ h hB,k.last_ne h,by omega⟩,h.bdR hB hS,rfl,rfl,col,pc,G,s,h,k,.inl rfl,rfl,λφ=>rfl⟩
 | f+1,col,r,R,pc,G,s,Z,neg,last,h,k,hm=>by
  have C:=h.len;have J:=k.len;have h1:=k.last_bnd h hB;have U:=h.rn
  have T:Zbo (λi=>Zah Z i col == 0) Z.length Z.length r=Zbo (λi=>Zh R i col == 0) R.length R.length r:=by
   rw[C,J];exact Zrf (by omega) U (λi h1 h2=>k.zero h h2 col)
  unfold Zar Zbd okZ okR;simp only[T];rw[C]at T ⊢;simp only[J];by_cases hr:r=n
  ·simp only[Gx hr]
   exact⟨⟨k.bdZ h hB,⟨k.last_ne h,by omega⟩,.inl hr⟩,⟨h.bdR hB hS,.inl hr⟩,(by trivial),(by trivial),col,pc,G,s,h,k,.inr ⟨hr,by omega⟩,rfl,λφ=>rfl⟩
  ·simp only[Gw hr]
   obtain⟨q,hq⟩:∃ q,Zbo (λi=>Zh R i col == 0) n n r=q:=⟨_,rfl⟩;obtain⟨p1,p2,p3,p4⟩:=Zfc (z:=λi=>Zh R i col == 0) (n:=n) (f:=n) (k:=r) (by omega) (by omega);rw[hq]at p1 p2 p3 p4;simp only[hq];by_cases hqn:q=n
   ·simp only[Gx hqn]
    have hz:∀ i,r<=i->i<n->Zh R i col=0:=λi h1 h2=>by simpa using p3 i h1 (by omega)
    obtain⟨o1,o2,o3,o4,e,u,G',s',o5,o6,o7,o8,o9⟩:=Zkq hB hS f (col+1) r R pc G s Z neg last (h.skip (by omega) hz) k (by omega);exact⟨⟨k.bdZ h hB,⟨k.last_ne h,by omega⟩,.inr ⟨λ_=>o1,λhn=>absurd hqn hn⟩⟩,⟨h.bdR hB hS,.inr ⟨λ_=>o2,λhn=>absurd hqn hn⟩⟩,o3,o4,e,u,G',s',o5,o6,by omega,o8,o9⟩
   ·simp only[Gw hqn]
    have o:q<n:=by omega
    have I:Zh R q col≠0:=by simpa using p4 o
    have O:=h.swap o p1;have ksw:=k.swap h o p1
    have y:Zh (Zai R q r) r col=Zh R q col:=by
     rw[Zh9 (by omega) (by omega)];congr 1;unfold swI;split;rename_i h;exact h;rw[Gx rfl]
    have V:Zah (Zai Z q r) r col=Zah Z q col:=by
     rw[Zh1 (by omega) (by omega)];congr 1;unfold swI;split;rename_i h;exact h;rw[Gx rfl]
    have Y:=O.clear (by omega) (by omega) (by rw[y];exact I);have kcl:=ksw.clear O (by omega) (by omega) (by rw[y];exact I);rw[V]at kcl;obtain⟨o1,o2,o3,o4,e,u,G',s',o5,o6,o7,o8,o9⟩:=Zkq hB hS f (col+1) (r+1) _ _ _ _ _ (neg != decide (q≠r)) _ Y kcl (by omega);refine⟨⟨k.bdZ h hB,⟨k.last_ne h,by omega⟩,.inr ⟨λhn=>absurd hn hqn,λ_=>o1⟩⟩,⟨h.bdR hB hS,.inr ⟨λhn=>absurd hn hqn,λ_=>o2⟩⟩,o3,o4,e,u,G',s',o5,o6,by omega,?_,λφ=>?_⟩;rw[o8,Zw8 s o (by omega)]
    ·rw[o9,Z0f (λa b=>G a (φ b)) o (by omega)]
     by_cases hqr:q=r
     ·rw[Gx hqr]
      have:decide (q≠r)=false:=by simp[hqr]
      rw[this];cases neg <;> rfl
     ·rw[Gw hqr]
      have:decide (q≠r)=true:=by simp[hqr]
      rw[this];cases neg <;> simp[sgB] <;> grind
def denTo(row:List Rat):Nat->Nat
 | 0=>1
 | k+1=>denTo row k*((row[k]?.getD 0).den/Yn (denTo row k) (row[k]?.getD 0).den)
def Zd2(row:List Rat):List Int:=row.map λf=>f.num*((denTo row row.length/f.den:Nat):Int)
def Z8(R:List (List Rat)):List (List Int):=R.map Zd2
def denAt(R:List (List Rat))(i:Nat):Nat:=denTo (R[i]?.getD []) (R[i]?.getD []).length
theorem Zed(row:List Rat)(k:Nat):0<denTo row k:=by
 induction k with
 | zero=>exact Nat.one_pos
 | succ k ih =>
  refine Nat.mul_pos ih (Nat.div_pos (Nat.le_of_dvd (Rat.den_pos _) (QV _ _)) (Yc _ ih))
theorem Zmz(row:List Rat)(k:Nat):denTo row k ∣ denTo row (k+1)/\(row[k]?.getD 0).den ∣ denTo row (k+1):=by
 refine⟨⟨_,rfl⟩,?_⟩;obtain⟨c,hc⟩:=Nat.gcd_dvd_left (denTo row k) (row[k]?.getD 0).den;refine⟨c,?_⟩;simp only[denTo];obtain⟨d,hd⟩:=QV (denTo row k) (row[k]?.getD 0).den;have hg:0<Yn (denTo row k) (row[k]?.getD 0).den:=Yc _ (Zed row k)
 have e:(row[k]?.getD 0).den/Yn (denTo row k) (row[k]?.getD 0).den=d:=by
  rw[Nat.div_eq_iff_eq_mul_left hg (QV _ _),Nat.mul_comm];exact hd
 rw[e]
 calc denTo row k*d=(Yn (denTo row k) (row[k]?.getD 0).den*c)*d:=by rw[<- hc]
  _=(Yn (denTo row k) (row[k]?.getD 0).den*d)*c:=by rw[Nat.mul_assoc,Nat.mul_assoc,Nat.mul_comm c d]
  _=(row[k]?.getD 0).den*c:=by rw[<- hd]
theorem Zig(row:List Rat){j:Nat}:∀ {k:Nat},j<k->(row[j]?.getD 0).den ∣ denTo row k
 | 0,h=>by omega
 | k+1,h=>by
  by_cases hj:j=k;rw[hj];exact(Zmz row k).2;exact Nat.dvd_trans (Zig row (j:=j) (k:=k) (by omega)) (Zmz row k).1
theorem Zqy(row:List Rat){D:Nat}(h:∀ j:Nat,(row[j]?.getD 0).den<=D)(k:Nat):denTo row k<=D^k:=by
 induction k with
 | zero=>exact Qg _
 | succ k ih =>
  rw[Nat.pow_succ];exact QA ih (Qo (Ye _ _) (h k))
theorem Zkb(row:List Rat):(Zd2 row).length=row.length:=by unfold Zd2;simp
theorem Zqe(row:List Rat)(j:Nat):(((Zd2 row)[j]?.getD 0:Int):Rat)=(denTo row row.length:Nat)*row[j]?.getD 0:=by
 unfold Zd2;rw[Qi];by_cases hj:j<row.length
 ·rw[Qe hj]
  simp only[Qp,Qj];have hd:=Zig row hj;rw[Qe hj]at hd;simp only[Qj]at hd;obtain⟨c,hc⟩:=hd;rw[hc,Nat.mul_div_cancel_left _ (Rat.den_pos _),QF,QR,Rat.natCast_mul];have e0:((row[j].num:Int):Rat)/((row[j].den:Nat):Rat)=row[j]:=by have:=Rat.num_divInt_den row[j];rw[Yr,QR]at this;exact this
  have e1:((row[j].den:Nat):Rat)≠0:=by
   intro h;have:row[j].den=0:=by exact_mod_cast h
   have:=row[j].den_pos;omega
  have e2:((row[j].num:Int):Rat)=row[j]*((row[j].den:Nat):Rat):=by rw[<- e0];grind
  rw[e2];grind
 ·rw[Qk (by omega)]
  simp only[Yf,Yb];have:((0:Int):Rat)=0:=rfl;rw[this];grind
theorem Zgo(R:List (List Rat))(i j:Nat):((Zah (Z8 R) i j:Int):Rat)=(denAt R i:Nat)*Zh R i j:=by
 unfold Zah Z8 Zh denAt;rw[Qi];cases h:R[i]? with
 | none=>simp only[Option.map_none,Option.getD_none,List.getElem?_nil];have:((0:Int):Rat)=0:=rfl
         rw[this];grind
 | some row=>simp only[Qp,Qj];exact Zqe row j
theorem Zm9{B S n m:Nat}(R:List (List Rat))(hl:R.length=n)(hrow:∀ i,i<n->(R[i]?.getD []).length=m)(hS:∀ i,i<n->denAt R i<=S)(hBd:∀ i j,i<n->(Zah (Z8 R) i j).natAbs<=B) :
    EIR B S n m 0 0 R (λ_=>0) (λi j=>(denAt R i:Nat)*Zh R i j) (λi=>(denAt R i:Nat))/\EIZ n m 0 R (λ_=>0) (λi=>(denAt R i:Nat)) (Z8 R) 1:=by
 refine⟨⟨hl,hrow,λl h=>by omega,λl l' _ h=>by omega,λi j _ _ h=>by omega,λl j h=>by omega,λl h=>by omega,QC _,QC _,λi hi=>⟨⟨(denAt R i:Nat),by rw[QR],by rw[Int.natAbs_natCast];exact hS i hi⟩,λh0=>?_⟩,λi j hi=>⟨_,(Zgo R i j).symm,hBd i j hi⟩,λN f σ _ _ _=>rfl⟩,⟨by unfold Z8;simp[hl],λi hi=>?_,rfl,λi j hi=>?_⟩⟩
 ·have:denAt R i=0:=by exact_mod_cast h0
  have:=Zed (R[i]?.getD []) (R[i]?.getD []).length;unfold denAt at *;omega
 ·unfold Z8
  rw[Qi,Qe (by omega)];simp only[Qp,Qj];rw[Zkb];have:=hrow i hi;rw[Qe (by omega)]at this;exact this
 ·rw[Zgo]
  have:Zeu R (λ_=>0) (λi=>((denAt R i:Nat):Rat)) (min i 0)=1:=by rw[show min i 0=0 by omega];rfl
  rw[this];grind
