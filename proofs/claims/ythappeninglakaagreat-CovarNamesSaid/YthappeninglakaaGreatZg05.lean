/- The reference of layer 1: times, minus over limbs. The -/
import Derived.BigQuiet
import Derived.Deep.QuietTactic
import Derived.Deep.CutBlock
import Derived.Deep.DeepCutAuto
import Derived.Test.YthappeninglakaaGreatZg04
set_option maxRecDepth 100000
set_option maxHeartbeats 4000000
set_option linter.unusedSimpArgs false
set_option linter.unusedVariables false
namespace Go.Proofs.YthappeninglakaaGreat
open Go.RowKit
open Nat renaming le_refl→Qa,eq_zero_or_pos→Qb,mul_le_mul_left→Qd,le_trans→Qe,div_lt_iff_lt_mul→Qh,gcd→Qj,mul_assoc→Qm,mul_add→Qn,mod_lt→Qo,lt_of_le_of_lt→Qp,mul_comm→Qq,zero_add→Qr,mul_zero→Qs,and_two_pow_sub_one_eq_mod→Qu,pow_pos→Qv,mul_lt_mul_of_pos_left→Qx,lt_or_ge→Qy,le_of_lt→Qz,gcd_pos_of_pos_right→QA,zero_le→QC,mul_one→QD,mul_le_mul→QE,pow_le_pow_right→QG,mul_le_mul_right→QI,lt_of_lt_of_le→QL,gcd_comm→QM,add_zero→QN,lt_trichotomy→QO,gcd_dvd_left→QP,mod_eq_of_lt→QR,mod_add_div→QT,div_add_mod→QU
open Below renaming refl→Qc
open IntKind renaming wrap_u64→Qf
open Blk renaming new→Qg
open List renaming length_set→Qi,drop_of_length_le→Qt,length_append→Qw,length_take→QS,replicate→QV,drop_zero→QW
open World renaming size_alloc→Qk,cell?_of_block→QH
open Int renaming eq_ofNat_of_zero_le→Ql,fdiv_eq_ediv_of_dvd→QB,neg_ediv_of_dvd→QJ,natCast_ediv→QQ
open Rat renaming divInt→QF
open And renaming intro→QK
attribute [local go_sem] Zg
def RMinus(w:World)(a b:List Nat)(k borrow:Nat)(v:Value)(wr:World):Prop:=
 ∃ l,OwnL 106 wr w.heap.size v l/\l.length=k/\borrow<=1/\val l+val (b.take k)=val (a.take k)+pw k*borrow/\Below w.heap.size w wr
theorem RMinus.step{w w1 wb:World}{a b l:List Nat}{k borrow q s:Nat}{v':Value}{X:Int}{row:Option Nat}(hlen:l.length=k)(hlt:Lt32 l)(hq:q<=1)
    (hI:val l+val (b.take k)=val (a.take k)+pw k*borrow) (hB:Below w.heap.size w wb) (hown:w1.ownsRow w.heap.size 106 1 v' (k+1) (l.map limb ++ [.int .u32 X]))
    (hg:wb.grownBy w1 row) (hr:∀ j,row=some j->w.heap.size<=j) (hs:s<4294967296) (hX:X=s) (he:s+b[k]?.getD 0+borrow=a[k]?.getD 0+4294967296*q):RMinus w a b (k+1) q v' w1:=by
 refine⟨l ++ [s],OwnL.snoc hlen.symm hown hlt hX hs,by simp[hlen],hq,?_,hB.grown hg hB.size hr⟩;rw[Zes,hlen,Zac,Zac,Za3];have:pw k*(s+b[k]?.getD 0+borrow)=pw k*(a[k]?.getD 0+4294967296*q):=by rw[he]
 grind
theorem RMinus.stop{w wr:World}{a b:List Nat}{n borrow:Nat}{v:Value}(h:RMinus w a b n borrow v wr)(ha:a.length<=n)(hb:b.length<=n)(hab:val b<=val a) :
    ∃ A c l,v=.slice A n c/\Lim wr A n c l/\val l=val a-val b/\Below w.heap.size w wr:=by
 obtain⟨l,e,f,hq,hI,hB⟩:=h;obtain⟨A,c,hv,hL⟩:=e.lim;rw[f]at hv hL;refine⟨A,c,l,hv,hL,?_,hB⟩;rw[Zae ha,Zae hb]at hI;have:=hL.lt_pw;rcases Qb borrow with h0|h0;subst h0;omega;have:=Qd (pw n) h0;omega
theorem Znp(A B:Option Addr)(n c m d:Nat)(a b:List Nat)(w:World)(ha:Lim w A n c a)(hb:Lim w B m d b)(hmn:m<=n)(O:val b<=val a)(hn9:n<=1000000000) :
    Calls Tryz.prog 170 #[.slice A n c,.slice B m d] w (OutL w λl=>l=digits (val a-val b)):=by
 obtain⟨i0,hi,C,I,y⟩:=info_parts Zdo;have b0:=ha.2.1;have b2:=hb.2.1;have Y:=ha.2.2.1;have a1:=hb.2.2.1;unfold maxLen at Y a1;have a2:=Za ha.len;have V:=Za hb.len;have O:=Za O;go_enter Tryz.func170,Tryz.ntmps170
 go_wp2
 go_loopw [5,6,7] (λov cv iv wr=>∃ k borrow:Nat,k<=n/\cv=.int .i64 borrow/\iv=.int .i64 k/\RMinus w a b k borrow ov wr) (λ_ _ iv _=>n-(intOf iv).toNat)
 case atStart=>exact⟨0,0,QC _,rfl,rfl,[],OwnL.nil _ _ _,rfl,by omega,by simp[val],Qc _ _⟩
 case round =>
  obtain⟨k,borrow,hk,rfl,rfl,hP⟩:=hrel;by_cases h1:k<n
  ·obtain⟨l,f,J,b1,hI,hB⟩:=hP
   have HLen:=Za J;have HI:=Za hI;clear J hI;have a9:=ha.lt.get k;have a8:=hb.lt.get k;obtain⟨ba,oa,rfl,a6⟩:=(ha.below hB).at_ h1;by_cases h2:k<m
   ·obtain⟨bb,ob,rfl,a7⟩:=(hb.below hB).at_ h2
    by_cases h3:a[k]?.getD 0<borrow+b[k]?.getD 0
    ·go_wp2_with (at_builtin;refine Zu _ rfl (.tmp 37) (.tmp 40) 37 rfl w.heap.size 106 i0 _ 1 4 Tryz.underlying37 hi C I y rfl (by omega) _ k (l.map limb) rfl (by have:=HLen.out;subst this;exact f.1.alloc _) _ _ 1 1 _ rfl (Zbx _ _ _) (by simp[Value.oneCell']) (by simp only[maxLen];omega) (by omega) (by have:=hB.size;simp;omega) ?_;intro v1 w1 h o u)
     go_roundw
     case rel=>exact⟨k+1,1,by omega,by go_num,by go_num,RMinus.step (s:=a[k]?.getD 0+4294967296-borrow-b[k]?.getD 0) HLen.out f.2 (by omega) HI.out (hB.alloc hB.size _) h o f.row_ge (by omega) (by omega) (by omega)⟩
     case measure=>simp[intOf];omega
    ·go_wp2_with (at_builtin;refine Zu _ rfl (.tmp 37) (.tmp 40) 37 rfl w.heap.size 106 i0 _ 1 4 Tryz.underlying37 hi C I y rfl (by omega) _ k (l.map limb) rfl (by have:=HLen.out;subst this;exact f.1.alloc _) _ _ 1 1 _ rfl (Zbx _ _ _) (by simp[Value.oneCell']) (by simp only[maxLen];omega) (by omega) (by have:=hB.size;simp;omega) ?_;intro v1 w1 h o u)
     go_roundw
     case rel=>exact⟨k+1,0,by omega,by go_num,by go_num,RMinus.step (s:=a[k]?.getD 0-borrow-b[k]?.getD 0) HLen.out f.2 (by omega) HI.out (hB.alloc hB.size _) h o f.row_ge (by omega) (by omega) (by omega)⟩
     case measure=>simp[intOf];omega
   ·have U:=Za (getD_none (l:=b) (i:=k) (by rw[V.out];omega))
    by_cases h3:a[k]?.getD 0<borrow
    ·go_wp2_with (at_builtin;refine Zu _ rfl (.tmp 37) (.tmp 40) 37 rfl w.heap.size 106 i0 _ 1 4 Tryz.underlying37 hi C I y rfl (by omega) _ k (l.map limb) rfl (by have:=HLen.out;subst this;exact f.1.alloc _) _ _ 1 1 _ rfl (Zbx _ _ _) (by simp[Value.oneCell']) (by simp only[maxLen];omega) (by omega) (by have:=hB.size;simp;omega) ?_;intro v1 w1 h o u)
     go_roundw
     case rel=>exact⟨k+1,1,by omega,by go_num,by go_num,RMinus.step (s:=a[k]?.getD 0+4294967296-borrow) HLen.out f.2 (by omega) HI.out (hB.alloc hB.size _) h o f.row_ge (by omega) (by omega) (by rw[U.out];omega)⟩
     case measure=>simp[intOf];omega
    ·go_wp2_with (at_builtin;refine Zu _ rfl (.tmp 37) (.tmp 40) 37 rfl w.heap.size 106 i0 _ 1 4 Tryz.underlying37 hi C I y rfl (by omega) _ k (l.map limb) rfl (by have:=HLen.out;subst this;exact f.1.alloc _) _ _ 1 1 _ rfl (Zbx _ _ _) (by simp[Value.oneCell']) (by simp only[maxLen];omega) (by omega) (by have:=hB.size;simp;omega) ?_;intro v1 w1 h o u)
     go_roundw
     case rel=>exact⟨k+1,0,by omega,by go_num,by go_num,RMinus.step (s:=a[k]?.getD 0-borrow) HLen.out f.2 (by omega) HI.out (hB.alloc hB.size _) h o f.row_ge (by omega) (by omega) (by rw[U.out];omega)⟩
     case measure=>simp[intOf];omega
  ·obtain rfl:k=n:=by omega
   obtain⟨A2,c2,l2,rfl,a0,T,hB⟩:=hP.stop (by rw[a2.out];omega) (by rw[V.out];omega) O.out;have T:=Za T;clear hP;go_wp2_with (go_at_call 123;refine(Zd8 _ _ _ _ _ a0 hn9).mono ?_;rintro e w3 ⟨A3,n3,c3,l3,rfl,a5,a4,a3⟩);go_ret;exact⟨_,_,_,_,rfl,a5,by rw[a4,T.out],hB.trans (a3.mono hB.size)⟩
theorem Zh7{neg:Bool}{A:Option Addr}{n c:Nat}{l:List Nat}{w:World}(h:Lim w A n c l)(hk:okW neg l=true) :
    Calls Tryz.prog 29 #[.agg #[.bool neg,.slice A n c]] w λe w'=>e=.returned (.int .i64 0)/\Below w.heap.size w w':=
 (Ztl neg A n c l w h).mono λ_ _ ⟨he,hb⟩=>⟨by rw[he,hk];rfl,hb⟩
theorem Zjo{na nb:Bool}{A B:Option Addr}{n c m d:Nat}{la lb:List Nat}{w:World}(hLa:Lim w A n c la)(hLb:Lim w B m d lb)(hk:(okW na la && okW nb lb)=true) :
    Calls Tryz.prog 97 #[.agg #[.bool na,.slice A n c],.agg #[.bool nb,.slice B m d]] w λe w'=>e=.returned (.int .i64 0)/\Below w.heap.size w w':=by
 have u:Below w.heap.size w ((w.alloc (.cells #[.bool na,.slice A n c] 39)).alloc (.cells #[.bool nb,.slice B m d] 39)):=((Qc w.heap.size w).alloc (Qa _) _).alloc (by simp) _;obtain⟨ka,kb⟩:okW na la=true/\okW nb lb=true:=by simpa using hk
 go_enter Tryz.func97,Tryz.ntmps97;go_wp2_with fail;refine(Zh7 (hLa.below u) (by first|assumption|simp_all)).mono ?_;rintro e w1 ⟨rfl,h⟩;obtain⟨f,y⟩:=Zdh h;have I:w.heap.size+1<w1.heap.size:=by have:=h.size;simp at this;omega
 have o:Below w.heap.size w w1:=u.trans (h.mono (by simp;omega));have g0:w1.cell? ⟨w.heap.size,0,none⟩=some (.bool na):=by simp[f,go_sem]
 have g1:w1.cell? ⟨w.heap.size,1,none⟩=some (.slice A n c):=by simp[f,go_sem]
 have g2:w1.cell? ⟨w.heap.size+1,0,none⟩=some (.bool nb):=by simp[f,go_sem]
 have g3:w1.cell? ⟨w.heap.size+1,1,none⟩=some (.slice B m d):=by simp[f,go_sem]
 clear f y;go_wp2_with fail;refine(Zh7 (hLb.below o) (by first|assumption|simp_all)).mono ?_;rintro e w2 ⟨rfl,C⟩;go_wp2_with fail;go_ret;exact⟨rfl,o.trans (C.mono o.size)⟩
theorem Zrb(na nb:Bool)(A B:Option Addr)(n c m d:Nat)(va vb:Nat)(w:World)(ha:Lim w A n c (digits va))(hb:Lim w B m d (digits vb))(hn:n<=4096)(hm:m<=4096) :
    Calls Tryz.prog 124 #[.agg #[.bool na,.slice A n c],.agg #[.bool nb,.slice B m d]] w (ResW w (sg na va+sg nb vb)):=by
 have O:Below w.heap.size w (((w.alloc (.cells #[.bool na,.slice A n c] 39)).alloc (.cells #[.bool nb,.slice B m d] 39)).alloc (.cells #[.bool false,.slice none 0 0] 39)):=(((Qc w.heap.size w).alloc (Qa _) _).alloc (by simp) _).alloc (by simp;omega) _;have O:=Za O;obtain⟨cv,a0⟩:∃ x:Int,Zck (digits va) (digits vb)=x:=⟨_,rfl⟩;have HC:=Za a0;have a5:0<=cv ↔ vb<=va:=by rw[<- a0];exact Zhp
 have a5:=Za a5;have HLA:=Za ha.len;have HLB:=Za hb.len;by_cases hs:na=nb
 ·subst hs
  clear a0;have HZZ:∀ l:List Nat,val l=val (digits va)+val (digits vb)->sg na (val l)=sg na va+sg na vb:=λl h=>by rw[h,Zj,Zj,Zk0]
  go_enter Tryz.func124,Tryz.ntmps124;go_wp2_with fail;have u:Below w.heap.size w (((w.alloc (.cells #[.bool na,.slice A n c] 39)).alloc (.cells #[.bool na,.slice B m d] 39)).alloc (.cells #[.bool false,.slice none 0 0] 39)):=(((Qc w.heap.size w).alloc (Qa _) _).alloc (by simp) _).alloc (by simp;omega) _;have a2:=ha.below u;have U:=hb.below u
  have g7:Blk (((w.alloc (.cells #[.bool na,.slice A n c] 39)).alloc (.cells #[.bool na,.slice B m d] 39)).alloc (.cells #[.bool false,.slice none 0 0] 39)) (w.heap.size+1+1) 39 #[.bool false,.slice none 0 0]:=by
   have:=Qg ((w.alloc (.cells #[.bool na,.slice A n c] 39)).alloc (.cells #[.bool na,.slice B m d] 39)) 39 #[.bool false,.slice none 0 0];simp only[Qk]at this;exact this
  generalize hWW:(((w.alloc (.cells #[.bool na,.slice A n c] 39)).alloc (.cells #[.bool na,.slice B m d] 39)).alloc (.cells #[.bool false,.slice none 0 0] 39))=w1 at *;have g0:w1.cell? ⟨w.heap.size,0,none⟩=some (.bool na):=by rw[<- hWW];simp[go_sem]
  have g1:w1.cell? ⟨w.heap.size,1,none⟩=some (.slice A n c):=by rw[<- hWW];simp[go_sem]
  have g2:w1.cell? ⟨w.heap.size+1,0,none⟩=some (.bool na):=by rw[<- hWW];simp[go_sem]
  have g3:w1.cell? ⟨w.heap.size+1,1,none⟩=some (.slice B m d):=by rw[<- hWW];simp[go_sem]
  have a7:w.heap.size+1+1<w1.heap.size:=by rw[<- hWW];simp
  clear hWW;have g5:=g7.cell 0;have g6:=g7.cell 1;have g8:=g7.frozen 0;have g9:=g7.frozen 1;simp at g5 g6
  go_region_held3 (λw'=>w'.cell? ⟨w.heap.size,0,none⟩=some (.bool na)/\w'.cell? ⟨w.heap.size,1,none⟩=some (.slice A n c)/\w'.cell? ⟨w.heap.size+1,0,none⟩=some (.bool na)/\w'.cell? ⟨w.heap.size+1,1,none⟩=some (.slice B m d))
   (((try dsimp only);(repeat' apply QK);all_goals (first|go_keep|(simp[*,go_sem];done))))
   (first
    | (go_at_call 169;refine(Zyd _ _ _ _ _ _ _ _ _ (by exact a2) (by exact U) (by omega) (by omega)).mono ?_;rintro e w2 ⟨A2,n2,c2,l2,rfl,V,T,f⟩;have k0:=Zb f g0;have k1:=Zb f g1;have j0:=Zb f g2;have k2:=Zb f g3;have k3:=Zb f g5;have k4:=Zb f g6;have k5:=Zn f g5 g8;have k6:=Zn f g6 g9;have k7:=Zc f g7)
    | (go_at_call 74;refine(Zcb _ _ _ _ _ _ (by exact V) (by have:=V.len;rw[T.1]at this;omega)).mono ?_;rintro e w3 ⟨o,J,A3,n3,c3,y,rfl,a3⟩;have m0:=Zb o k0;have m1:=Zb o k1;have i0:=Zb o j0;have m2:=Zb o k2;have m3:=Zb o k3;have m4:=Zb o k4;have m5:=Zn o k3 k5;have m6:=Zn o k4 k6;have m7:=Zc o k7))
  have a1:Below w.heap.size w w3:=(u.trans ((Zv f).mono u.size)).trans (o.mono (Qe u.size (Zv f).size))
  go_wp2
  have HZ:=HZZ l2 T.2;refine bodyPost_ret (v:=.tuple #[.agg #[.bool J,.slice A3 n3 c3],.int .i64 y]) (by simp[results,Tryz.results124,go_sem,m3,m4]) rfl ?_;exact ResW.box (HZ▸a3) a1 (by omega) m7
 ·have a8:(na == nb)=false:=by simpa using hs
  by_cases hcc:0<=cv
  ·have Y:=a5.out.1 hcc
   have HLE:Hid (m<=n):=by have:=Z4 Y;rw[ha.len,hb.len]at this;exact this
   have HVL:Hid (val (digits vb)<=val (digits va)):=by rw[Zj,Zj];exact Y
   have HZZ:∀ l:List Nat,l=digits (val (digits va)-val (digits vb))->sg na (val l)=sg na va+sg nb vb:=λl h=>Zfn hs (by rw[h,Zj,Zj,Zj];omega)
   have HLL:Hid ((digits (val (digits va)-val (digits vb))).length<=4096):=by
    have:=Z4 (show val (digits va)-val (digits vb)<=va by rw[Zj,Zj];omega);rw[HLA.out]at this;exact Qe this hn
   clear a0 Y hs;go_enter Tryz.func124,Tryz.ntmps124;go_wp2_with fail;refine(Zc9 _ _ _ _ _ _ _ _ _ (ha.below O.out) (hb.below O.out)).mono ?_;rintro e w1 ⟨a4,I⟩;rw[HC.out]at a4;subst a4;obtain⟨C,a6⟩:=Zdh I;have a7:w.heap.size+1+1<w1.heap.size:=by have:=I.size;simp at this;omega
   have u:Below w.heap.size w w1:=O.out.trans (I.mono (by simp;omega));have g0:w1.cell? ⟨w.heap.size,0,none⟩=some (.bool na):=by simp[C,go_sem]
   have g1:w1.cell? ⟨w.heap.size,1,none⟩=some (.slice A n c):=by simp[C,go_sem]
   have g2:w1.cell? ⟨w.heap.size+1,0,none⟩=some (.bool nb):=by simp[C,go_sem]
   have g3:w1.cell? ⟨w.heap.size+1,1,none⟩=some (.slice B m d):=by simp[C,go_sem]
   have g7:Blk w1 (w.heap.size+1+1) 39 #[.bool false,.slice none 0 0]:=by
    refine Zc I ?_;have:=Qg ((w.alloc (.cells #[.bool na,.slice A n c] 39)).alloc (.cells #[.bool nb,.slice B m d] 39)) 39 #[.bool false,.slice none 0 0];simp only[Qk]at this;exact this
   have g5:=g7.cell 0;have g6:=g7.cell 1;have g8:=g7.frozen 0;have g9:=g7.frozen 1;simp at g5 g6;clear C a6;have a2:=ha.below u;have U:=hb.below u;go_wp2_with fail
   go_region_held3 (λw'=>w'.cell? ⟨w.heap.size,0,none⟩=some (.bool na)/\w'.cell? ⟨w.heap.size,1,none⟩=some (.slice A n c)/\w'.cell? ⟨w.heap.size+1,0,none⟩=some (.bool nb)/\w'.cell? ⟨w.heap.size+1,1,none⟩=some (.slice B m d))
    (((try dsimp only);(repeat' apply QK);all_goals (first|go_keep|(simp[*,go_sem];done))))
    (first
     | (go_at_call 170;refine(Znp _ _ _ _ _ _ _ _ _ (by exact a2) (by exact U) HLE.out HVL.out (by omega)).mono ?_;rintro e w2 ⟨A2,n2,c2,l2,rfl,V,T,f⟩;have k0:=Zb f g0;have k1:=Zb f g1;have j0:=Zb f g2;have k2:=Zb f g3;have k3:=Zb f g5;have k4:=Zb f g6;have k5:=Zn f g5 g8;have k6:=Zn f g6 g9;have k7:=Zc f g7)
     | (go_at_call 74;refine(Zcb _ _ _ _ _ _ (by exact V) (by have h1:=V.len;rw[T]at h1;have h2:=HLL.out;omega)).mono ?_;rintro e w3 ⟨o,J,A3,n3,c3,y,rfl,a3⟩;have m0:=Zb o k0;have m1:=Zb o k1;have i0:=Zb o j0;have m2:=Zb o k2;have m3:=Zb o k3;have m4:=Zb o k4;have m5:=Zn o k3 k5;have m6:=Zn o k4 k6;have m7:=Zc o k7))
   have a1:Below w.heap.size w w3:=(u.trans ((Zv f).mono u.size)).trans (o.mono (Qe u.size (Zv f).size))
   go_wp2
   have HZ:=HZZ l2 T;refine bodyPost_ret (v:=.tuple #[.agg #[.bool J,.slice A3 n3 c3],.int .i64 y]) (by simp[results,Tryz.results124,go_sem,m3,m4]) rfl ?_;exact ResW.box (HZ▸a3) a1 (by omega) m7
  ·have Y:va<=vb:=by
     rcases Qy vb va with h|h;exact absurd (a5.out.2 (Qz h)) hcc;exact h
   have HLE:Hid (n<=m):=by have:=Z4 Y;rw[ha.len,hb.len]at this;exact this
   have HVL:Hid (val (digits va)<=val (digits vb)):=by rw[Zj,Zj];exact Y
   have HZZ:∀ l:List Nat,l=digits (val (digits vb)-val (digits va))->sg nb (val l)=sg na va+sg nb vb:=λl h=>by rw[Int.add_comm];exact Zfn (Ne.symm hs) (by rw[h,Zj,Zj,Zj];omega)
   have HLL:Hid ((digits (val (digits vb)-val (digits va))).length<=4096):=by
    have:=Z4 (show val (digits vb)-val (digits va)<=vb by rw[Zj,Zj];omega);rw[HLB.out]at this;exact Qe this hm
   clear a0 Y hs;go_enter Tryz.func124,Tryz.ntmps124;go_wp2_with fail;refine(Zc9 _ _ _ _ _ _ _ _ _ (ha.below O.out) (hb.below O.out)).mono ?_;rintro e w1 ⟨a4,I⟩;rw[HC.out]at a4;subst a4;obtain⟨C,a6⟩:=Zdh I;have a7:w.heap.size+1+1<w1.heap.size:=by have:=I.size;simp at this;omega
   have u:Below w.heap.size w w1:=O.out.trans (I.mono (by simp;omega));have g0:w1.cell? ⟨w.heap.size,0,none⟩=some (.bool na):=by simp[C,go_sem]
   have g1:w1.cell? ⟨w.heap.size,1,none⟩=some (.slice A n c):=by simp[C,go_sem]
   have g2:w1.cell? ⟨w.heap.size+1,0,none⟩=some (.bool nb):=by simp[C,go_sem]
   have g3:w1.cell? ⟨w.heap.size+1,1,none⟩=some (.slice B m d):=by simp[C,go_sem]
   have g7:Blk w1 (w.heap.size+1+1) 39 #[.bool false,.slice none 0 0]:=by
    refine Zc I ?_;have:=Qg ((w.alloc (.cells #[.bool na,.slice A n c] 39)).alloc (.cells #[.bool nb,.slice B m d] 39)) 39 #[.bool false,.slice none 0 0];simp only[Qk]at this;exact this
   have g5:=g7.cell 0;have g6:=g7.cell 1;have g8:=g7.frozen 0;have g9:=g7.frozen 1;simp at g5 g6;clear C a6;have a2:=ha.below u;have U:=hb.below u;go_wp2_with fail
   go_region_held3 (λw'=>w'.cell? ⟨w.heap.size,0,none⟩=some (.bool na)/\w'.cell? ⟨w.heap.size,1,none⟩=some (.slice A n c)/\w'.cell? ⟨w.heap.size+1,0,none⟩=some (.bool nb)/\w'.cell? ⟨w.heap.size+1,1,none⟩=some (.slice B m d))
    (((try dsimp only);(repeat' apply QK);all_goals (first|go_keep|(simp[*,go_sem];done))))
    (first
     | (go_at_call 170;refine(Znp _ _ _ _ _ _ _ _ _ (by exact U) (by exact a2) HLE.out HVL.out (by omega)).mono ?_;rintro e w2 ⟨A2,n2,c2,l2,rfl,V,T,f⟩;have k0:=Zb f g0;have k1:=Zb f g1;have j0:=Zb f g2;have k2:=Zb f g3;have k3:=Zb f g5;have k4:=Zb f g6;have k5:=Zn f g5 g8;have k6:=Zn f g6 g9;have k7:=Zc f g7)
     | (go_at_call 74;refine(Zcb _ _ _ _ _ _ (by exact V) (by have h1:=V.len;rw[T]at h1;have h2:=HLL.out;omega)).mono ?_;rintro e w3 ⟨o,J,A3,n3,c3,y,rfl,a3⟩;have m0:=Zb o k0;have m1:=Zb o k1;have i0:=Zb o j0;have m2:=Zb o k2;have m3:=Zb o k3;have m4:=Zb o k4;have m5:=Zn o k3 k5;have m6:=Zn o k4 k6;have m7:=Zc o k7))
   have a1:Below w.heap.size w w3:=(u.trans ((Zv f).mono u.size)).trans (o.mono (Qe u.size (Zv f).size))
   go_wp2
   have HZ:=HZZ l2 T;refine bodyPost_ret (v:=.tuple #[.agg #[.bool J,.slice A3 n3 c3],.int .i64 y]) (by simp[results,Tryz.results124,go_sem,m3,m4]) rfl ?_;exact ResW.box (HZ▸a3) a1 (by omega) m7
def NumW(w:World)(z:Int)(e:Ending)(w':World):Prop:=
 Below w.heap.size w w'/\∃ neg A n c,e=.returned (.agg #[.bool neg,.slice A n c])/\Wd w' neg A n c z
theorem Lim.pair(w:World)(t:TypeId){v:Nat}(hv:v<18446744073709551616){X Y:Int}(hX:X=(v%4294967296:Nat))(hY:Y=(v/4294967296:Nat)) :
    Lim (w.alloc (.cells #[.int .u32 X,.int .u32 Y] t)) (some ⟨w.heap.size,0,none⟩) 2 2 [v%4294967296,v/4294967296]:=by
 subst hX hY;exact Lim.of_blk (l:=[v%4294967296,v/4294967296]) (Qg w t _) (Lt32.cons (Qo _ (by decide)) (Lt32.cons (by omega) Lt32.nil)) (by unfold maxLen;simp)
theorem Lim.pair2(w:World)(o:Obj)(t:TypeId){v:Nat}(hv:v<18446744073709551616){X Y:Int}(hX:X=(v%4294967296:Nat))(hY:Y=(v/4294967296:Nat)) :
    Lim ((w.alloc o).alloc (.cells #[.int .u32 X,.int .u32 Y] t)) (some ⟨w.heap.size+1,0,none⟩) 2 2 [v%4294967296,v/4294967296]:=by
 have:=Lim.pair (w.alloc o) t hv hX hY;rw[Qk]at this;exact this
theorem Zh5{z:Int}(h:z.natAbs<=9223372036854775808):z.natAbs<pw 4096:=
 QL (Qp h (show 9223372036854775808<pw 2 by decide)) (Zb4 (by omega))
theorem ResP.small{w:World}{z:Int}{neg:Bool}{A:Option Addr}{n c:Nat}{code:Int}(h:ResP w z neg A n c code)(hs:z.natAbs<pw 4096):Wd w neg A n c z:=by
 rcases h with ⟨_,_,h⟩|⟨h,_⟩;exact h;omega
theorem Wd.alloc{w:World}{neg:Bool}{A:Option Addr}{n c:Nat}{z:Int}(h:Wd w neg A n c z)(o:Obj):Wd (w.alloc o) neg A n c z:=⟨h.1,h.2.1,h.2.2.alloc o⟩
theorem NumW.box{w w3:World}{z:Int}{neg:Bool}{A:Option Addr}{n c:Nat}{g:Nat}{t:TypeId}{b0:Bool}{A0:Option Addr}{n0 c0:Nat}(hP:Wd w3 neg A n c z)(hB:Below w.heap.size w w3)(hg:w.heap.size<=g)(hb:Blk w3 g t #[.bool b0,.slice A0 n0 c0]) :
    NumW w z (.returned (.agg #[.bool neg,.slice A n c])) ((w3.setCell ⟨g,0,none⟩ (.bool neg)).setCell ⟨g,1,none⟩ (.slice A n c)):=by
 have e:Blk (w3.setCell ⟨g,0,none⟩ (.bool neg)) g t #[.bool neg,.slice A0 n0 c0]:=hb.set_ 0 (.bool neg);exact⟨(hB.setCell (p:=⟨g,0,none⟩) hg _).setCell (p:=⟨g,1,none⟩) hg _,_,_,_,_,rfl,hP.1,hP.2.1,(hP.2.2.set_box hb (NoLimb.box _ _ _ _) _ _).set_box e (NoLimb.box _ _ _ _) _ _⟩
theorem NumW.alloc{w w':World}{z:Int}{e:Ending}(h:NumW w z e w')(o:Obj):NumW w z e (w'.alloc o):=by
 obtain⟨hb,neg,A,n,c,he,hw⟩:=h;exact⟨hb.alloc hb.size _,neg,A,n,c,he,hw.alloc o⟩
theorem Zrl(v:Nat)(w:World)(hv:v<9223372036854775808) :
    Calls Tryz.prog 114 #[.int .i64 v] w (NumW w (v)):=by
 have O:decide ((v:Int)<0)=false:=by simp
 go_enter Tryz.func114,Tryz.ntmps114;go_wp2_with fail;have u:Below w.heap.size w (w.alloc (.cells #[.bool false,.slice none 0 0] 39)):=(Qc w.heap.size w).alloc (Qa _) _
 refine(Zb7 _ _ _ _ [v%4294967296,v/4294967296] _ (by
  refine Lim.pair2 w _ _ (by omega) ?_ ?_ <;> first|rfl|omega|(simp only[Qf];omega))).mono ?_
 rintro e w1 ⟨o,f,A1,n1,c1,y,rfl,h⟩;have hz:sg false (val [v%4294967296,v/4294967296])=v:=by simp[sg,val];omega
 rw[hz]at h;have I:Wd w1 f A1 n1 c1 (v):=h.small (Zh5 (by omega));have J:Below w.heap.size w w1:=(u.alloc u.size _).trans (o.mono (by simp;omega));have m7:=Zc o (Blk.alloc (Qg w 39 #[.bool false,.slice none 0 0]) _);have m3:=m7.cell 0;have m4:=m7.cell 1;have m5:=m7.frozen 0;have m6:=m7.frozen 1;simp at m3 m4;have C:=m7.lt;have HM:=Za m7;clear m7 hz h;go_wp2_with fail;refine bodyPost_ret (v:=.agg #[.bool f,.slice A1 n1 c1]) (by simp[results,Tryz.results114,go_sem,m3,m4,C]) rfl ?_;exact(NumW.box I J (Qa _) HM.out).alloc _
theorem Zyt(v:Nat)(w:World)(hv0:0<v)(hv:v<=9223372036854775808) :
    Calls Tryz.prog 114 #[.int .i64 (-(v:Int))] w (NumW w (-(v:Int))):=by
 have O:decide (-(v:Int)<0)=true:=by simp;omega
 go_enter Tryz.func114,Tryz.ntmps114;go_wp2_with fail;have u:Below w.heap.size w (w.alloc (.cells #[.bool false,.slice none 0 0] 39)):=(Qc w.heap.size w).alloc (Qa _) _
 refine(Zb7 _ _ _ _ [v%4294967296,v/4294967296] _ (by
  refine Lim.pair2 w _ _ (by omega) ?_ ?_ <;> first|rfl|omega|(simp only[Qf];omega))).mono ?_
 rintro e w1 ⟨o,f,A1,n1,c1,y,rfl,h⟩;have hz:sg true (val [v%4294967296,v/4294967296])=-(v:Int):=by simp[sg,val];omega
 rw[hz]at h;have I:Wd w1 f A1 n1 c1 (-(v:Int)):=h.small (Zh5 (by omega));have J:Below w.heap.size w w1:=(u.alloc u.size _).trans (o.mono (by simp;omega));have m7:=Zc o (Blk.alloc (Qg w 39 #[.bool false,.slice none 0 0]) _);have m3:=m7.cell 0;have m4:=m7.cell 1;have m5:=m7.frozen 0;have m6:=m7.frozen 1;simp at m3 m4;have C:=m7.lt;have HM:=Za m7;clear m7 hz h;go_wp2_with fail;refine bodyPost_ret (v:=.agg #[.bool f,.slice A1 n1 c1]) (by simp[results,Tryz.results114,go_sem,m3,m4,C]) rfl ?_;exact(NumW.box I J (Qa _) HM.out).alloc _
theorem Zoa(v:Nat)(w:World)(hv:v<9223372036854775808) :
    Calls Tryz.prog 32 #[.int .i64 v] w (NumW w (v)):=by
 have O:decide ((v:Int)<0)=false:=by simp
 go_enter Tryz.func32,Tryz.ntmps32;go_wp2_with fail;have u:Below w.heap.size w (w.alloc (.cells #[.bool false,.slice none 0 0] 39)):=(Qc w.heap.size w).alloc (Qa _) _
 refine(Zcb _ _ _ _ [v%4294967296,v/4294967296] _ (by
  refine Lim.pair2 w _ _ (by omega) ?_ ?_ <;> first|rfl|omega|(simp only[Qf];omega)) (by omega)).mono ?_
 rintro e w1 ⟨o,f,A1,n1,c1,y,rfl,h⟩;have hz:sg false (val [v%4294967296,v/4294967296])=v:=by simp[sg,val];omega
 rw[hz]at h;have I:Wd w1 f A1 n1 c1 (v):=h.small (Zh5 (by omega));have J:Below w.heap.size w w1:=(u.alloc u.size _).trans (o.mono (by simp;omega));have m7:=Zc o (Blk.alloc (Qg w 39 #[.bool false,.slice none 0 0]) _);have m3:=m7.cell 0;have m4:=m7.cell 1;have m5:=m7.frozen 0;have m6:=m7.frozen 1;simp at m3 m4;have C:=m7.lt;have HM:=Za m7;clear m7 hz h;go_wp2_with fail;refine bodyPost_ret (v:=.agg #[.bool f,.slice A1 n1 c1]) (by simp[results,Tryz.results32,go_sem,m3,m4,C]) rfl ?_;exact(NumW.box I J (Qa _) HM.out).alloc _
theorem Zxj(v:Nat)(w:World)(hv0:0<v)(hv:v<=9223372036854775808) :
    Calls Tryz.prog 32 #[.int .i64 (-(v:Int))] w (NumW w (-(v:Int))):=by
 have O:decide (-(v:Int)<0)=true:=by simp;omega
 go_enter Tryz.func32,Tryz.ntmps32;go_wp2_with fail;have u:Below w.heap.size w (w.alloc (.cells #[.bool false,.slice none 0 0] 39)):=(Qc w.heap.size w).alloc (Qa _) _
 refine(Zcb _ _ _ _ [v%4294967296,v/4294967296] _ (by
  refine Lim.pair2 w _ _ (by omega) ?_ ?_ <;> first|rfl|omega|(simp only[Qf];omega)) (by omega)).mono ?_
 rintro e w1 ⟨o,f,A1,n1,c1,y,rfl,h⟩;have hz:sg true (val [v%4294967296,v/4294967296])=-(v:Int):=by simp[sg,val];omega
 rw[hz]at h;have I:Wd w1 f A1 n1 c1 (-(v:Int)):=h.small (Zh5 (by omega));have J:Below w.heap.size w w1:=(u.alloc u.size _).trans (o.mono (by simp;omega));have m7:=Zc o (Blk.alloc (Qg w 39 #[.bool false,.slice none 0 0]) _);have m3:=m7.cell 0;have m4:=m7.cell 1;have m5:=m7.frozen 0;have m6:=m7.frozen 1;simp at m3 m4;have C:=m7.lt;have HM:=Za m7;clear m7 hz h;go_wp2_with fail;refine bodyPost_ret (v:=.agg #[.bool f,.slice A1 n1 c1]) (by simp[results,Tryz.results32,go_sem,m3,m4,C]) rfl ?_;exact(NumW.box I J (Qa _) HM.out).alloc _
theorem Zbf(z:Int)(w:World)(h1:-9223372036854775808<=z)(h2:z<=9223372036854775807):Calls Tryz.prog 114 #[.int .i64 z] w (NumW w z):=by
 rcases Int.le_total 0 z with h|h
 ·obtain⟨v,rfl⟩:=Ql h
  exact Zrl v w (by omega)
 ·rcases Ql (show 0 <= -z by omega)with ⟨v,hv⟩
  obtain rfl:z=-(v:Int):=by omega
  rcases Qb v with rfl|h0;exact Zrl 0 w (by omega);exact Zyt v w h0 (by omega)
theorem Zf0(z:Int)(w:World)(h1:-9223372036854775808<=z)(h2:z<=9223372036854775807):Calls Tryz.prog 32 #[.int .i64 z] w (NumW w z):=by
 rcases Int.le_total 0 z with h|h
 ·obtain⟨v,rfl⟩:=Ql h
  exact Zoa v w (by omega)
 ·rcases Ql (show 0 <= -z by omega)with ⟨v,hv⟩
  obtain rfl:z=-(v:Int):=by omega
  rcases Qb v with rfl|h0;exact Zoa 0 w (by omega);exact Zxj v w h0 (by omega)
theorem Zdy(neg:Bool)(A:Option Addr)(n c:Nat)(w:World) :
    Calls Tryz.prog 132 #[.agg #[.bool neg,.slice A n c],.int .i64 0] w λe w'=>e=.returned (.agg #[.bool neg,.slice A n c])/\Below w.heap.size w w':=by
 go_enter Tryz.func132,Tryz.ntmps132;go_wp2_with fail;refine bodyPost_ret (v:=.agg #[.bool neg,.slice A n c]) (by simp[results,Tryz.results132,go_sem]) rfl ?_;exact⟨rfl,by go_grown⟩
theorem Zjx(neg:Bool)(A:Option Addr)(n c:Nat)(w:World)(hn:n<=1000000000)(b:Bool)(hb:((n:Int) == 0)=b) :
    Calls Tryz.prog 152 #[.agg #[.bool neg,.slice A n c]] w λe w'=>e=.returned (.bool b)/\Below w.heap.size w w':=by
 go_enter Tryz.func152,Tryz.ntmps152;go_wp2_with fail;go_ret;exact⟨rfl,by go_grown⟩
theorem one_ok(w:World):Calls Tryz.prog 154 #[] w (NumW w 1):=by
 have f:∀ X:Obj,Below w.heap.size w (w.alloc X):=λX=>(Qc w.heap.size w).alloc (Qa _) _;have f:=Za f;go_enter Tryz.func154,Tryz.ntmps154;go_wp2_with fail;refine(Zbf 1 _ (by omega) (by omega)).mono ?_;rintro e w1 ⟨h,o,A1,n1,c1,rfl,u⟩;have y:Below w.heap.size w w1:=(f.out _).trans (h.mono (by simp));have m8:=Zc h (Qg w 39 #[.bool false,.slice none 0 0]);have m3:=m8.cell 0;have m4:=m8.cell 1;have m5:=m8.frozen 0;have m6:=m8.frozen 1;simp at m3 m4;replace m8:=Za m8;go_wp2_with fail;refine bodyPost_ret (v:=.agg #[.bool o,.slice A1 n1 c1]) (by simp[results,Tryz.results154,go_sem,m3,m4]) rfl ?_;exact NumW.box u y (Qa _) m8.out
theorem Zy5(na nb:Bool)(A B:Option Addr)(n c m d:Nat)(za zb:Int)(w:World)(ha:Wd w na A n c za)(hb:Wd w nb B m d zb)(b:Bool)(he:decide (za=zb)=b) :
    Calls Tryz.prog 153 #[.agg #[.bool na,.slice A n c],.agg #[.bool nb,.slice B m d]] w λe w'=>e=.returned (.bool b)/\Below w.heap.size w w':=by
 have u:((Zda za zb) == 0)=b:=by
  rw[<- he];unfold Zda;by_cases h1:za<zb
  ·rw[Gx h1];have:za≠zb:=by omega
   simp[this]
  ·rw[Gw h1]
   by_cases h2:zb<za
   ·rw[Gx h2];have:za≠zb:=by omega
    simp[this]
   ·rw[Gw h2];have:za=zb:=by omega
    simp[this]
 have HA:=Za ha;have HB:=Za hb;clear ha hb he;have h:∀ X Y:Obj,Below w.heap.size w ((w.alloc X).alloc Y):=λX Y=>((Qc w.heap.size w).alloc (Qa _) _).alloc (by simp) _;have h:=Za h;obtain⟨cz,f⟩:=Gz (Zda za zb);rw[f]at u
 have HC:Hid (∀ W:World,Wd W na A n c za->Wd W nb B m d zb->Calls Tryz.prog 121 #[.agg #[.bool na,.slice A n c],.agg #[.bool nb,.slice B m d]] W λe w'=>e=.returned (.tuple #[.int .i64 cz,.int .i64 0])/\Below W.heap.size W w'):=λW h1 h2=>by
  have:=Zqm na nb A B n c m d za zb W h1 h2;rw[f]at this;exact this
 clear f;go_enter Tryz.func153,Tryz.ntmps153;go_wp2_with fail;refine(HC.out _ ((HA.out.alloc _).alloc _) ((HB.out.alloc _).alloc _)).mono ?_;rintro e w1 ⟨rfl,o⟩;go_wp2_with fail;go_ret;exact⟨rfl,(h.out _ _).trans (o.mono (by simp;omega))⟩
def Low(num den:Int):Prop:=0<den/\Qj num.natAbs den.natAbs=1
theorem Ze3{a b:Nat}{p:Nat}(ha:a<p)(hb:b<p):Qj a b<p:=by
 rcases Qb a with rfl|h;rw[Nat.gcd_zero_left];exact hb;exact Qp (Nat.le_of_dvd h (QP a b)) ha
theorem Zlx(na:Bool)(A B:Option Addr)(n c m d:Nat)(za zb:Int)(w:World)(ha:Wd w na A n c za)(hb:Wd w false B m d zb)(hp:0<zb)(b:Bool)(hg:decide ((Nat.gcd za.natAbs zb.natAbs:Int)=1)=b) :
    Calls Tryz.prog 110 #[.agg #[.bool na,.slice A n c,.bool false,.slice B m d]] w λe w'=>e=.returned (.int .i64 (if b then 0 else 8))/\Below w.heap.size w w':=by
 have a7:0<m:=by rw[<- hb.lim.len];exact length_digits_pos.2 (by omega)
 have a0:((m:Int) == 0)=false:=by simp;omega
 have hm:=hb.2.1;have a4:=Ze3 ha.small hb.small;obtain⟨G,hG⟩:=Gz (Qj za.natAbs zb.natAbs);rw[hG]at hg a4;have HA:=Za ha;have HB:=Za hb
 have HGc:Hid (∀ W:World,Wd W na A n c za->Wd W false B m d zb->Calls Tryz.prog 151 #[.agg #[.bool na,.slice A n c],.agg #[.bool false,.slice B m d]] W (ResW W (G:Int))):=λW h1 h2=>by
  have:=Zkj na false A B n c m d za zb W h1 h2;rw[hG]at this;exact this
 clear ha hb hG;have C:∀ X:Obj,Below w.heap.size w (w.alloc X):=λX=>(Qc w.heap.size w).alloc (Qa _) _;have C:=Za C;go_enter Tryz.func110,Tryz.ntmps110;go_wp2_with fail;refine(HGc.out _ (HA.out.alloc _) (HB.out.alloc _)).mono ?_;rintro e w1 ⟨y,ng,Ag,kg,cg,code,rfl,hR⟩;rcases hR with ⟨-,rfl,O⟩|⟨T,-⟩
 case inr=>exact absurd T (by omega)
 obtain⟨I,a6⟩:=Zdh y;have a8:w.heap.size<w1.heap.size:=by have:=y.size;simp at this;omega
 have Y:Below w.heap.size w w1:=(C.out _).trans (y.mono (by simp));have g2:w1.cell? ⟨w.heap.size,2,none⟩=some (.bool false):=by simp[I,go_sem]
 have g3:w1.cell? ⟨w.heap.size,3,none⟩=some (.slice B m d):=by simp[I,go_sem]
 have J:Below w1.heap.size w1 (w1.alloc (.cells #[.bool ng,.slice Ag kg cg] 39)):=(Qc _ _).alloc (Qa _) _;have bg:=Za (Qg w1 39 #[.bool ng,.slice Ag kg cg]);have a2:=Zb J g2;have a3:=Zb J g3;have U:=Za (O.alloc (.cells #[.bool ng,.slice Ag kg cg] 39));have u:=Za (Y.trans (J.mono Y.size));clear I a6 g2 g3 O;go_wp2_with fail;generalize w1.alloc _=w2 at *;have p0:=bg.out.cell 0;have p1:=bg.out.cell 1;simp at p0 p1
 go_region_held3 (λw'=>w'.cell? ⟨w.heap.size,2,none⟩=some (.bool false)/\w'.cell? ⟨w.heap.size,3,none⟩=some (.slice B m d)/\w'.cell? ⟨w1.heap.size,0,none⟩=some (.bool ng)/\w'.cell? ⟨w1.heap.size,1,none⟩=some (.slice Ag kg cg))
  (((try dsimp only);(repeat' apply QK);all_goals (first|go_keep|(simp[*,go_sem];done))))
  (first
   | (go_at_call 152;refine(Zjx _ _ _ _ _ (by omega) _ a0).mono ?_;rintro e w3 ⟨rfl,a5⟩;have f:=Zv a5;have k2:=Zb f a2;have k3:=Zb f a3;have k0:=Zb f p0;have k1:=Zb f p1)
   | (go_at_call 154;refine(one_ok _).mono ?_;rintro e w4 ⟨h,n4,A4,m4,c4,rfl,a1⟩;have j2:=Zb h k2;have j3:=Zb h k3;have j0:=Zb h k0;have j1:=Zb h k1)
   | (go_at_call 153;refine(Zy5 _ _ _ _ _ _ _ _ _ _ _ ((U.out.below f).below h) a1 b hg).mono ?_;rintro e w5 ⟨rfl,o⟩;have i2:=Zb o j2;have i3:=Zb o j3;have i0:=Zb o j0;have i1:=Zb o j1))
 have V:Hid (Below w.heap.size w w5):=((u.out.trans (f.mono u.out.size)).trans (h.mono (Qe u.out.size f.size))).trans (o.mono (Qe u.out.size (Qe f.size h.size)));cases b
 ·go_wp2_with fail
  go_ret;exact⟨rfl,V.out⟩
 ·go_wp2_with fail
  go_ret;exact⟨rfl,V.out⟩
def Zhb(a b:Int):Int:=if b<0 then -(Qj a.natAbs b.natAbs:Nat)else (Qj a.natAbs b.natAbs:Nat)
theorem Zpk{a b:Int}(h:b≠0):Zhb a b≠0:=by
 have:0<Qj a.natAbs b.natAbs:=QA _ (by omega);unfold Zhb;split <;> omega
theorem Zj1(a b:Int):((Qj a.natAbs b.natAbs:Nat):Int) ∣ a:=by
 rw[<- Int.dvd_natAbs];exact Int.ofNat_dvd.2 (QP _ _)
theorem Znq(a b:Int):((Qj a.natAbs b.natAbs:Nat):Int) ∣ b:=by
 rw[<- Int.dvd_natAbs];exact Int.ofNat_dvd.2 (Nat.gcd_dvd_right _ _)
theorem Zxq(a b:Int):Zhb a b ∣ a:=by
 unfold Zhb;split;exact Int.neg_dvd.2 (Zj1 a b);exact Zj1 a b
theorem Zxs(a b:Int):Zhb a b ∣ b:=by
 unfold Zhb;split;exact Int.neg_dvd.2 (Znq a b);exact Znq a b
theorem Zsk(a b:Int):Int.gcd b a=Qj a.natAbs b.natAbs:=by unfold Int.gcd;exact QM _ _
theorem Zls{a b:Int}(h:b≠0):Int.fdiv a (Zhb a b)=(QF a b).num:=by
 rw[QB (Zxq a b),Rat.num_divInt,Zsk];unfold Zhb;obtain⟨k,hk⟩:=Zj1 a b
 have hg:((Qj a.natAbs b.natAbs:Nat):Int)≠0:=by
  have:0<Qj a.natAbs b.natAbs:=QA _ (by omega);omega
 split
 ·rename_i hb
  rw[Int.ediv_neg,Int.sign_eq_neg_one_of_neg hb,show (-1:Int)*a=-a by omega,QJ (Zj1 a b)]
 rw[Int.sign_eq_one_of_pos (by omega),Int.one_mul]
theorem Zlm{a b:Int}(h:b≠0):Int.fdiv b (Zhb a b)=((QF a b).den:Nat):=by
 rw[QB (Zxs a b),Rat.den_divInt,Zsk,Gw h];unfold Zhb
 split
 ·rename_i hb
  rw[Int.ediv_neg,<- QJ (Znq a b),show -b=((b.natAbs:Nat):Int) by omega,QQ]
 rw[QQ,show ((b.natAbs:Nat):Int)=b by omega]
theorem low_rat(r:Rat):Low r.num r.den:=⟨by have:=r.den_pos;omega,by simpa using r.reduced⟩
theorem rat_low{a b:Int}(h:Low a b):(QF a b).num=a/\((QF a b).den:Int)=b:=by
 have h0:b≠0:=by have:=h.1;omega
 have hG:Zhb a b=1:=by unfold Zhb;rw[Gw (by have:=h.1;omega),h.2];rfl
 rw[<- Zls h0,<- Zlm h0,hG];simp
def Fr(w:World)(na:Bool)(A:Option Addr)(n c:Nat)(nb:Bool)(B:Option Addr)(m d:Nat)(r:Rat):Prop:=Wd w na A n c r.num/\Wd w nb B m d (r.den:Nat)
theorem Fr.below{w w':World}{na:Bool}{A:Option Addr}{n c:Nat}{nb:Bool}{B:Option Addr}{m d:Nat}{r:Rat}(h:Fr w na A n c nb B m d r)(hb:Below w.heap.size w w'):Fr w' na A n c nb B m d r:=⟨h.1.below hb,h.2.below hb⟩
theorem Fr.neg{w:World}{na:Bool}{A:Option Addr}{n c:Nat}{nb:Bool}{B:Option Addr}{m d:Nat}{r:Rat}(h:Fr w na A n c nb B m d r):nb=false:=by
 have:=h.2.1;rw[this];simp
def Zfj(w:World)(r:Rat)(e:Ending)(w':World):Prop:=
 Below w.heap.size w w'/\∃ na A n c nb B m d,e=.returned (.agg #[.bool na,.slice A n c,.bool nb,.slice B m d])/\Fr w' na A n c nb B m d r
def Zir(w:World)(r:Rat)(e:Ending)(w':World):Prop:=
 Below w.heap.size w w'/\∃ na A n c nb B m d,e=.returned (.tuple #[.agg #[.bool na,.slice A n c,.bool nb,.slice B m d],.int .i64 0])/\Fr w' na A n c nb B m d r
def Zvb(w W:World)(g:Nat):Prop:=
 (∀ na A n c z,Wd w na A n c z->Wd W na A n c z)/\(∀ g' t' cs',g'≠g->Blk w g' t' cs'->Blk W g' t' cs')/\W.heap.size=w.heap.size
theorem NoLimb.box4(b:Bool)(A:Option Addr)(n c:Nat)(b':Bool)(A':Option Addr)(n' c':Nat):NoLimb #[.bool b,.slice A n c,.bool b',.slice A' n' c']:=λi x=>by
 rcases i with _|_|_|_|i <;> simp
theorem Zas{t:TypeId}{B:Nat}{w0 w:World}{g:Nat}{b0:Bool}{A0:Option Addr}{n0 c0:Nat}(neg:Bool)(A:Option Addr)(n c:Nat)(hB:Below B w0 w)(hs:B<=g)(hb:Blk w g t #[.bool b0,.slice A0 n0 c0]) :
    ∃ W,(w.setCell ⟨g,0,none⟩ (.bool neg)).setCell ⟨g,1,none⟩ (.slice A n c)=W/\Below B w0 W/\Blk W g t #[.bool neg,.slice A n c]/\Zvb w W g:=by
 have e:Blk (w.setCell ⟨g,0,none⟩ (.bool neg)) g t #[.bool neg,.slice A0 n0 c0]:=hb.set_ 0 (.bool neg);have f:Blk ((w.setCell ⟨g,0,none⟩ (.bool neg)).setCell ⟨g,1,none⟩ (.slice A n c)) g t #[.bool neg,.slice A n c]:=e.set_ 1 (.slice A n c);refine⟨_,rfl,(hB.setCell (p:=⟨g,0,none⟩) hs _).setCell (p:=⟨g,1,none⟩) hs _,f,λna A' n' c' z hW=>⟨hW.1,hW.2.1,(hW.2.2.set_box hb (NoLimb.box _ _ _ _) _ _).set_box e (NoLimb.box _ _ _ _) _ _⟩,λg' t' cs' hg h=>(h.far hg _).far hg _,by simp⟩
theorem Zal{t:TypeId}{B:Nat}{w0 w:World}{g:Nat}{a0:Bool}{A0:Option Addr}{n0 c0:Nat}{b0:Bool}{B0:Option Addr}{m0 d0:Nat}(na:Bool)(A:Option Addr)(n c:Nat)(nb:Bool)(B':Option Addr)(m d:Nat)(hB:Below B w0 w)(hs:B<=g)(hb:Blk w g t #[.bool a0,.slice A0 n0 c0,.bool b0,.slice B0 m0 d0]) :
    ∃ W,(((w.setCell ⟨g,0,none⟩ (.bool na)).setCell ⟨g,1,none⟩ (.slice A n c)).setCell ⟨g,2,none⟩ (.bool nb)).setCell ⟨g,3,none⟩ (.slice B' m d)=W/\Below B w0 W/\Blk W g t #[.bool na,.slice A n c,.bool nb,.slice B' m d]/\Zvb w W g:=by
 have e:Blk (w.setCell ⟨g,0,none⟩ (.bool na)) g t #[.bool na,.slice A0 n0 c0,.bool b0,.slice B0 m0 d0]:=hb.set_ 0 (.bool na);have o:Blk ((w.setCell ⟨g,0,none⟩ (.bool na)).setCell ⟨g,1,none⟩ (.slice A n c)) g t #[.bool na,.slice A n c,.bool b0,.slice B0 m0 d0]:=e.set_ 1 (.slice A n c);have f:Blk (((w.setCell ⟨g,0,none⟩ (.bool na)).setCell ⟨g,1,none⟩ (.slice A n c)).setCell ⟨g,2,none⟩ (.bool nb)) g t #[.bool na,.slice A n c,.bool nb,.slice B0 m0 d0]:=o.set_ 2 (.bool nb);have u:Blk ((((w.setCell ⟨g,0,none⟩ (.bool na)).setCell ⟨g,1,none⟩ (.slice A n c)).setCell ⟨g,2,none⟩ (.bool nb)).setCell ⟨g,3,none⟩ (.slice B' m d)) g t #[.bool na,.slice A n c,.bool nb,.slice B' m d]:=f.set_ 3 (.slice B' m d);have hl:=NoLimb.box4;refine⟨_,rfl,(((hB.setCell (p:=⟨g,0,none⟩) hs _).setCell (p:=⟨g,1,none⟩) hs _).setCell (p:=⟨g,2,none⟩) hs _).setCell (p:=⟨g,3,none⟩) hs _,u,λna A' n' c' z hW=>⟨hW.1,hW.2.1,?_⟩,λg' t' cs' hg h=>(((h.far hg _).far hg _).far hg _).far hg _,by simp⟩;exact(((hW.2.2.set_box hb (hl _ _ _ _ _ _ _ _) _ _).set_box e (hl _ _ _ _ _ _ _ _) _ _).set_box o (hl _ _ _ _ _ _ _ _) _ _).set_box f (hl _ _ _ _ _ _ _ _) _ _
theorem Blk.two{w:World}{g:Nat}{t:TypeId}{x y:Value}(h:Blk w g t #[x,y]):w.cell? ⟨g,0,none⟩=some x/\w.cell? ⟨g,1,none⟩=some y/\w.frozen? ⟨g,0,none⟩=false/\w.frozen? ⟨g,1,none⟩=false:=
 ⟨h.cell 0,h.cell 1,h.frozen 0,h.frozen 1⟩
theorem Blk.four{w:World}{g:Nat}{t:TypeId}{x y z v:Value}(h:Blk w g t #[x,y,z,v]):w.cell? ⟨g,0,none⟩=some x/\w.cell? ⟨g,1,none⟩=some y/\w.cell? ⟨g,2,none⟩=some z/\w.cell? ⟨g,3,none⟩=some v/\w.frozen? ⟨g,0,none⟩=false/\w.frozen? ⟨g,1,none⟩=false/\w.frozen? ⟨g,2,none⟩=false/\w.frozen? ⟨g,3,none⟩=false:=
 ⟨h.cell 0,h.cell 1,h.cell 2,h.cell 3,h.frozen 0,h.frozen 1,h.frozen 2,h.frozen 3⟩
theorem Zr{B:Nat}{w0 w:World}(t:TypeId)(cs:Array Value)(hB:Below B w0 w)(hs:B<=w.heap.size) :
    ∃ W,w.alloc (.cells cs t)=W/\Below B w0 W/\Blk W w.heap.size t cs/\(∀ na A n c z,Wd w na A n c z->Wd W na A n c z)/\(∀ g' t' cs',Blk w g' t' cs'->Blk W g' t' cs')/\W.heap.size=w.heap.size+1:=
 ⟨_,rfl,hB.alloc hs _,Qg _ _ _,λ_ _ _ _ _ h=>h.alloc _,λ_ _ _ h=>h.alloc _,by simp⟩
theorem Zdb(w:World)(t0:TypeId)(c0:Array Value)(t1:TypeId)(c1:Array Value) :
    ∃ W,(w.alloc (.cells c0 t0)).alloc (.cells c1 t1)=W/\Below w.heap.size w W/\(Blk W w.heap.size t0 c0/\Blk W (w.heap.size+1) t1 c1)/\W.heap.size=w.heap.size+1+1:=by
 refine⟨_,rfl,((Qc w.heap.size w).alloc (Qa _) _).alloc (by simp) _,⟨(Qg _ _ _).alloc _,?_⟩,by simp⟩;have:=Qg (w.alloc (.cells c0 t0)) t1 c1;simp only[Qk]at this;exact this
theorem Zd0(w:World)(t0:TypeId)(c0:Array Value)(t1:TypeId)(c1:Array Value)(t2:TypeId)(c2:Array Value) :
    ∃ W,((w.alloc (.cells c0 t0)).alloc (.cells c1 t1)).alloc (.cells c2 t2)=W/\Below w.heap.size w W/\(Blk W w.heap.size t0 c0/\Blk W (w.heap.size+1) t1 c1/\Blk W (w.heap.size+1+1) t2 c2)/\W.heap.size=w.heap.size+1+1+1:=by
 obtain⟨W,hW,h1,h2,h3⟩:=Zdb w t0 c0 t1 c1;refine⟨_,rfl,?_,⟨?_,?_,?_⟩,by rw[hW];simp[h3]⟩ <;> rw[hW];exact h1.alloc (by omega) _;exact h2.1.alloc _;exact h2.2.alloc _;rw[<- h3];exact Qg _ _ _
theorem Zgf(w:World)(t0:TypeId)(c0:Array Value)(t1:TypeId)(c1:Array Value)(t2:TypeId)(c2:Array Value)(t3:TypeId)(c3:Array Value) :
    ∃ W,(((w.alloc (.cells c0 t0)).alloc (.cells c1 t1)).alloc (.cells c2 t2)).alloc (.cells c3 t3)=W/\Below w.heap.size w W/\(Blk W w.heap.size t0 c0/\Blk W (w.heap.size+1) t1 c1/\Blk W (w.heap.size+1+1) t2 c2/\Blk W (w.heap.size+1+1+1) t3 c3)/\W.heap.size=w.heap.size+1+1+1+1:=by
 obtain⟨W,hW,h1,h2,h3⟩:=Zd0 w t0 c0 t1 c1 t2 c2;refine⟨_,rfl,?_,⟨?_,?_,?_,?_⟩,by rw[hW];simp[h3]⟩ <;> rw[hW];exact h1.alloc (by omega) _;exact h2.1.alloc _;exact h2.2.1.alloc _;exact h2.2.2.alloc _;rw[<- h3];exact Qg _ _ _
theorem Zy{t:TypeId}{B:Nat}{w0 w:World}{g:Nat}{x0:Int}(x:Int)(hB:Below B w0 w)(hs:B<=g)(hb:Blk w g t #[.int .i64 x0]) :
    ∃ W,w.setCell ⟨g,0,none⟩ (.int .i64 x)=W/\Below B w0 W/\Blk W g t #[.int .i64 x]/\Zvb w W g:=by
 have e:Blk (w.setCell ⟨g,0,none⟩ (.int .i64 x)) g t #[.int .i64 x]:=hb.set_ 0 (.int .i64 x);have hl:NoLimb #[.int .i64 x0]:=λi x=>by rcases i with _|i <;> simp
 exact⟨_,rfl,hB.setCell (p:=⟨g,0,none⟩) hs _,e,λna A' n' c' z hW=>⟨hW.1,hW.2.1,hW.2.2.set_box hb hl _ _⟩,λg' t' cs' hg h=>h.far hg _,by simp⟩
theorem Zo4(A:Option Addr)(n c s:Nat)(l:List Nat)(w:World)(h:Lim w A n c l)(hs:s<32)(hn9:n<=1000000) :
    Calls Tryz.prog 141 #[.slice A n c,.int .u64 s] w (λe w'=>∃ v o,e=.returned v/\OwnL 106 w' w.heap.size v o/\o.length=n+1/\val o=2^s*val l/\Below w.heap.size w w'):=by
 obtain⟨i0,hi,a2,a3,Y⟩:=info_parts Zdo;have b1:=h.2.1;have a1:=h.2.2.1;unfold maxLen at a1;go_enter Tryz.func141,Tryz.ntmps141;go_wp2_with fail
 go_loopw [7,6,5] (λiv cv ov wr=>∃ i cy:Nat,i<=n/\iv=.int .i64 i/\cv=.int .u64 cy/\LeftP w s l i cy ov wr) (λiv _ _ _=>n-(intOf iv).toNat)
 case atStart=>exact⟨0,0,QC _,rfl,rfl,[],OwnL.nil _ _ _,rfl,Qv (by omega),by simp[val],Qc _ _⟩
 case round =>
  obtain⟨i,cy,b2,rfl,rfl,o,u,f,O,hI,hB⟩:=hrel;replace f:=Za f;replace hI:=Za hI;by_cases hi':i<n
  ·obtain⟨b,of,rfl,I⟩:=(h.below hB).at_ hi'
   have hx:=h.lt.get i;obtain⟨p,hp⟩:=Gz (2^s);have a9:p<=2147483648:=by rw[<- hp];exact QG (by omega) (show s<=31 by omega)
   have a7:p*l[i]?.getD 0<=2147483648*4294967295:=QE a9 (by omega)
   have a5:IntKind.u64.wrap ((cy:Int)+IntKind.u64.wrap (((l[i]?.getD 0:Nat):Int)*2^s))=((cy+p*l[i]?.getD 0:Nat):Int):=by
    have e1:(((l[i]?.getD 0:Nat):Int)*2^s)=((p*l[i]?.getD 0:Nat):Int):=by rw[<- hp];push_cast;rw[Int.mul_comm]
    rw[hp]at O;rw[e1,Qf,Qf];omega
   rw[hp]at O;replace hp:=Za hp;have V:Hid (val (l.take (i+1))=val (l.take i)+pw i*l[i]?.getD 0):=Zac l i;obtain⟨x,J⟩:=Gz (l[i]?.getD 0);rw[J]at I hx a7 a5 V;replace J:=Za J;obtain⟨t,ht⟩:=Gz (cy+p*x)
   have a8:t/4294967296<p:=by
    rw[Qh (by omega),<- ht];have:p*x+p<=p*4294967296:=by rw[<- Nat.mul_succ];exact Qd _ (by omega)
    omega
   have b0:t<18446744073709551616:=by omega
   rw[ht]at a5;replace ht:=Za ht;go_wp2_with (go_loud (at_builtin;refine Zu _ rfl (.tmp 23) (.tmp 26) 37 rfl w.heap.size 106 i0 _ 1 4 Tryz.underlying37 hi a2 a3 Y rfl (by omega) _ i (o.map limb) rfl (by have:=f.out;subst this;exact u.1.alloc _) _ _ 1 1 _ rfl (Zbx _ _ _) (by simp[Value.oneCell']) (by simp only[maxLen];omega) (by omega) (by have:=hB.size;simp;omega) ?_;intro v1 w1 y U a0));have C:OwnL 106 w1 w.heap.size v1 (o ++ [t%4294967296]):=OwnL.snoc (s:=t%4294967296) f.out.symm y u.2 (by omega) (Qo _ (by decide));have T:=(hB.alloc hB.size _).grown U (by have:=hB.size;simp;omega) u.row_ge
   go_roundw
   case rel =>
    refine⟨i+1,t/4294967296,by omega,by go_num,by go_num,_,C,by rw[Qw,f.out];rfl,by rw[hp.out];exact a8,?_,T⟩;rw[Zes,f.out,V.out,hp.out,Qn,Za3];have h1:=hI.out;rw[hp.out]at h1
    have h2:pw i*(t%4294967296)+4294967296*pw i*(t/4294967296)=pw i*t:=by
     rw[Qq 4294967296 (pw i),Qm,<- Qn,QT]
    have h3:p*(pw i*x)=pw i*(p*x):=by rw[Nat.mul_left_comm]
    rw[h3,<- h1,Nat.add_assoc,h2,<- ht.out,Qn];omega
   case measure=>simp[intOf];omega
  ·obtain rfl:i=n:=by omega
   have a4:=Za h.len;have a6:cy<4294967296:=QL O (show 2^s<=4294967296 from Qe (QG (by decide) (show s<=32 by omega)) (by decide));have a1:((cy:Int))%4294967296=(cy:Int):=by omega
   clear h;go_wp2_with (go_loud (at_builtin;refine Zu _ rfl (.tmp 30) (.tmp 33) 37 rfl w.heap.size 106 i0 _ 1 4 Tryz.underlying37 hi a2 a3 Y rfl (by omega) _ i (o.map limb) rfl (by have:=f.out;subst this;exact u.1.alloc _) _ _ 1 1 _ rfl (Zbx _ _ _) (by simp[Value.oneCell']) (by simp only[maxLen];omega) (by omega) (by have:=hB.size;simp;omega) ?_;intro v1 w1 y U a0));have C:OwnL 106 w1 w.heap.size v1 (o ++ [cy]):=OwnL.snoc (s:=cy) f.out.symm y u.2 (by omega) a6;have T:=(hB.alloc hB.size _).grown U (by have:=hB.size;simp;omega) u.row_ge;go_ret;refine⟨v1,_,rfl,C,by rw[Qw,f.out];rfl,?_,T⟩;rw[Zes,f.out,hI.out,Zae (by rw[a4.out];exact Qa _)]
def RShortR(w:World)(g n D:Nat)(l:List Nat)(k r:Nat)(wr:World):Prop:=
 ∃ o:List Nat,Blk wr g 106 (Zw o)/\o.length=n/\Lt32 o/\r<D/\val (o.drop k)*D+r=val (l.drop k)/\Below w.heap.size w wr
theorem Zt6(A:Option Addr)(n c d:Nat)(l:List Nat)(w:World)(hl:Lim w A n c l)(hd0:0<d)(hd:d<4294967296)(hn9:n<=1000000) :
    Calls Tryz.prog 140 #[.slice A n c,limb d] w (Zqa w (val l) d):=by
 obtain⟨i0,hi,a5,a7,a2⟩:=info_parts Zdo;have b8:=Zhm (P:=Tryz.prog) 37 106 Tryz.underlying37 hi a5 a7 a2 (n:Int) n rfl (by omega);have b6:=hl.2.1;have a4:=hl.2.2.1;unfold maxLen at a4;have u:=Za hl.len;have b7:((d:Int) == 0)=false:=by simp;omega
 have b3:(d:Int)≠0:=by omega
 go_enter Tryz.func140,Tryz.ntmps140;go_wp2_with fail
 go_loopw [8,7] (λiv rv wr=>∃ k r:Nat,k<=n/\iv=.int .i64 ((k:Int)-1)/\rv=.int .u64 r/\RShortR w w.heap.size n d l k r wr) (λiv _ _=>(intOf iv+1).toNat)
 case atStart=>exact⟨n,0,Qa _,rfl,rfl,QV n 0,Qg _ _ _,by simp,Lt32.replicate _,hd0,by rw[Qt (by simp),Qt (by rw[u.out];exact Qa _)];simp[val],(Qc _ _).alloc (Qa _) _⟩
 case round =>
  obtain⟨k,r,hk,rfl,rfl,o,h,f,O,hr,hI,hB⟩:=hrel;replace f:=Za f;replace hI:=Za hI;rcases k with _|k
  ·have T:=hI.out
   rw[QW,QW]at T;obtain⟨e1,e2⟩:=Zph (U:=val l) (V:=d) (q:=val o) (R:=r) (by omega) hr;have a1:=Lim.of_blk h O (by rw[f.out];unfold maxLen;omega);rw[f.out]at a1;have a0:r<4294967296:=by omega
   have b5:((r:Int))%4294967296=(r:Int):=by omega
   replace e1:=Za e1;replace e2:=Za e2;clear T;go_wp2_with fail;refine(Zd8 _ _ _ _ _ a1 (by omega)).mono ?_;rintro e w2 ⟨A2,n2,c2,l2,rfl,b2,rfl,Y⟩
   have C:∀ t,Lim (w2.alloc (.cells #[limb r] t)) (some ⟨w2.heap.size,0,none⟩) 1 1 [r]:=λt=>by
    have:=Lim.of_blk (l:=[r]) (Qg w2 t (Zw [r])) (Lt32.cons a0 Lt32.nil) (by simp[maxLen]);exact this
   replace C:=Za C;go_wp2_with fail;refine(Zd8 _ _ _ _ _ (C.out _) (by omega)).mono ?_;rintro e w3 ⟨A3,n3,c3,l3,rfl,b1,I,a8⟩;have y:Below w2.heap.size w2 w3:=((Qc w2.heap.size w2).alloc (Qa _) _).trans (a8.mono (by simp));replace I:=Za I;go_wp2_with fail
   go_ret2
   refine⟨_,_,_,_,_,_,rfl,by rw[<- e1.out];exact b2.below y,?_,(hB.trans (Y.mono hB.size)).trans (y.mono (Qe hB.size Y.size))⟩;have:=I.out;rw[show val [r]=r by simp[val]]at this;rw[<- e2.out,<- this];exact b1
  ·obtain⟨b,of,rfl,a3⟩:=(hl.below hB).at_ (k:=k) (by omega)
   have hx:=hl.lt.get k;have a9:=h.cell k;rw[Za5 o k (by rw[f.out];omega)]at a9;have b4:=h.frozen k;have a6:r*4294967296+l[k]?.getD 0<18446744073709551616:=by omega
   go_wp2_with fail;obtain⟨x,J⟩:=Gz (l[k]?.getD 0);rw[J]at hx a6 ⊢
   have e1:((r:Int)*4294967296+(x:Int))/(d:Int)%4294967296=(((r*4294967296+x)/d:Nat):Int):=by
    have:(r*4294967296+x)/d<4294967296:=by
     rw[Qh hd0];have:=Qd 4294967296 (show r+1<=d by omega);omega
    rw[show ((r:Int)*4294967296+(x:Int))/(d:Int)=(((r*4294967296+x)/d:Nat):Int) by simp];generalize (r*4294967296+x)/d=z at *;omega
   have e2:((r:Int)*4294967296+(x:Int))%(d:Int)=(((r*4294967296+x)%d:Nat):Int):=by simp
   have hq:(r*4294967296+x)/d<4294967296:=by
    rw[Qh hd0];have:=Qd 4294967296 (show r+1<=d by omega);omega
   have b0:(r*4294967296+x)%d<d:=Qo _ hd0;have he:(r*4294967296+x)/d*d+(r*4294967296+x)%d=r*4294967296+x:=by rw[Qq];exact QU _ _
   rw[e1,e2];generalize (r*4294967296+x)/d=q at *;generalize (r*4294967296+x)%d=r' at *;refine⟨⟨k,r',by omega,rfl,rfl,o.set k q,by rw[<- Zb3];exact h.set_ _ _,by rw[Qi];exact f.out,O.set _ hq,b0,?_,hB.setCell (p:=⟨w.heap.size,k,none⟩) (Qa _) _⟩,by simp[intOf] <;> omega⟩;exact Zn8 (by rw[f.out];omega) (by rw[u.out];omega) hI.out (by rw[J];exact he)
theorem Zn9{l l0 v:List Nat}{i c s c':Nat}(hi:i<l.length)(hI:val (l.take i)+pw i*c=val (l0.take i)+val (v.take i))(he:s+4294967296*c'=c+l0[i]?.getD 0+v[i]?.getD 0) :
    val ((l.set i s).take (i+1))+pw (i+1)*c'=val (l0.take (i+1))+val (v.take (i+1)):=by
 rw[Zac,Zac v,Zac l0,List.take_set_of_le (Qa i),List.getElem?_set_self hi,Za3];simp only[Option.getD_some];have e:pw i*s+pw i*(4294967296*c')=pw i*c+pw i*l0[i]?.getD 0+pw i*v[i]?.getD 0:=by rw[<- Qn,<- Qn,<- Qn,he]
 have e2:4294967296*pw i*c'=pw i*(4294967296*c'):=by rw[Qq 4294967296,Qm]
 rw[e2];omega
theorem Zhv{q v:Nat}(h:0<q):(q-1)*v+v=q*v:=by
 obtain⟨k,rfl⟩:∃ k,q=k+1:=⟨q-1,by omega⟩;rw[Nat.add_sub_cancel,Nat.succ_mul]
theorem Zwi{q v1 v2 r u2 top:Nat}(h1:q*v1+r=top)(h2:r*4294967296+u2<q*v2):top*4294967296+u2<q*(v1*4294967296+v2):=by
 have e:q*(v1*4294967296+v2)=q*v1*4294967296+q*v2:=by rw[Qn,Qm]
 rw[e,<- h1,Nat.add_mul,Nat.add_assoc];exact Nat.add_lt_add_left h2 _
def WinF(w:World)(g off n:Nat)(w':World):Prop:=
 w.grownBy w' (some g)/\(∀ j,(j<off \/ off+n<=j)->w'.cell? ⟨g,j,none⟩=w.cell? ⟨g,j,none⟩)/\(∀ j,w'.frozen? ⟨g,j,none⟩=w.frozen? ⟨g,j,none⟩)
theorem WinF.refl(w:World)(g off n:Nat):WinF w g off n w:=⟨World.grownBy.refl w _,λ_ _=>rfl,λ_=>rfl⟩
theorem WinF.set_{w w':World}{g off n i:Nat}(h:WinF w g off n w')(hi:i<n)(u:Value):WinF w g off n (w'.setCell ⟨g,off+i,none⟩ u):=
 ⟨Zhx h.1,λj hj=>(World.cell?_setCell_other _ _ _ _ (by simp <;> omega)).trans (h.2.1 j hj),λj=>(World.frozen?_setCell _ _ _ _).trans (h.2.2 j)⟩
theorem WinF.drewN{w w':World}{g off n:Nat}(h:WinF w g off n w')(k:Nat):WinF w g off n (w'.drewN k):=⟨⟨h.1.os,h.1.tape,h.1.output,h.1.size,h.1.block⟩,h.2.1,h.2.2⟩
theorem Zt3{w w':World}{g k:Nat}{u l:List Nat}(h:MutL w g 0 u)(hk:k+l.length<=u.length)(hf:WinF w g k l.length w')(hl:MutL w' g k l):MutL w' g 0 (splice u k l):=λj hj=>by
 rw[Zep hk]at hj;rw[Qr];by_cases hin:k<=j/\j<k+l.length
 ·obtain⟨i,rfl⟩:∃ i,j=k+i:=⟨j-k,by omega⟩
  rw[Zn5 hk (by omega)];exact hl i (by omega)
 ·rw[Zm5 hk (by omega)]
  have:=h j hj;rw[Qr]at this;exact⟨(hf.2.1 j (by omega)).trans this.1,(hf.2.2 j).trans this.2⟩
def Zz0(w:World)(g off:Nat)(u v:List Nat)(e:Ending)(w':World):Prop:=
 ∃ l,e=.returned (limb (val u/val v))/\l.length=u.length/\Lt32 l/\val l=val u%val v/\MutL w' g off l/\WinF w g off u.length w'
def DSub(w:World)(g off n q:Nat)(u v:List Nat)(i cy b:Nat)(wr:World):Prop:=
 ∃ l,MutL wr g off l/\l.length=n+1/\Lt32 l/\(∀ j,i<=j->l[j]?.getD 0=u[j]?.getD 0)/\val (l.take i)+q*val (v.take i)=val (u.take i)+pw i*(cy+b)/\WinF w g off (n+1) wr
def DAdd(w:World)(g off n:Nat)(l0 v:List Nat)(i c:Nat)(wr:World):Prop:=
 ∃ l,MutL wr g off l/\l.length=n+1/\Lt32 l/\(∀ j,i<=j->l[j]?.getD 0=l0[j]?.getD 0)/\val (l.take i)+pw i*c=val (l0.take i)+val (v.take i)/\WinF w g off (n+1) wr
theorem Zw3(g off n c d:Nat)(bv ov:Nat)(u v:List Nat)(w:World)(hu:MutL w g off u)(a5:u.length=n+1)(hut:Lt32 u)(hnc:n+1<=c)(hcm:c<=maxLen)(hn9:n<=1000000)(hn0:2<=n)
    (hv:Lim w (some ⟨bv,ov,none⟩) n d v) (hne:bv≠g) (hlt:val u<4294967296*val v) (htop:2147483648<=v[n-1]?.getD 0) :
    Calls Tryz.prog 142 #[.slice (some ⟨g,off,none⟩) (n+1) c,.slice (some ⟨bv,ov,none⟩) n d] w (Zz0 w g off u v):=by
 unfold maxLen at hcm;have i3:=hv.2.1;have g5:=hv.2.2.1;unfold maxLen at g5;have a7:=hv.len
 have hV:0<val v:=by
  rcases Qb (val v)with h0|h0;rw[h0]at hlt;omega;exact h0
 have f9:=top2_le a7 (by omega);have e0:=top3_lt a5 (by omega) hut;have i8:=hv.cell (k:=n-1) (by omega);have h7:=hv.cell (k:=n-2) (by omega);have h4:=(hu n (by omega)).1;have i4:=(hu (n-1) (by omega)).1;have i5:=(hu (n-2) (by omega)).1;have h8:=hv.lt.get (n-1);have i7:=hv.lt.get (n-2);have h6:=hut.get n;have h5:=hut.get (n-1);have i2:=hut.get (n-2);have g0:=Zpt a7 (by omega);have e8:=Zvh a5 (by omega) hut;generalize e9:v[n-1]?.getD 0=v1 at *;generalize f4:v[n-2]?.getD 0=v2 at *;generalize f0:u[n]?.getD 0=u0 at *;generalize f7:u[n-1]?.getD 0=u1 at *;generalize g1:u[n-2]?.getD 0=u2 at *;obtain⟨Q,hQ⟩:=Gz (val u/val v);have g8:Q<4294967296:=by rw[<- hQ,Qh hV];exact hlt
 obtain⟨top,a3⟩:=Gz (u0*4294967296+u1);rw[a3]at e0 e8;have e6:top<18446744073709551616:=by omega
 have a0:Q<=top/v1:=by rw[<- hQ];exact Zo1 (by omega) g0 e8
 have c6:top/v1<8589934592:=by rw[Qh (by omega)];omega
 have b4:top/v1*v1+top%v1=top:=by rw[Qq];exact QU _ _
 have a1:∀ q r,q*v1+r=top->r*4294967296+u2<q*v2->Q<q:=λq r h1 h2=>by
  rw[<- hQ];exact Zpi f9 e0 (Zwi h1 h2)
 replace a1:=Za a1;replace b4:=Za b4;replace a3:=Za a3;replace hQ:=Za hQ;replace a5:=Za a5;replace a7:=Za a7;replace e9:=Za e9;replace f4:=Za f4;replace f0:=Za f0;replace f7:=Za f7;replace g1:=Za g1;clear f9 e0 g0 e8;go_enter Tryz.func142,Tryz.ntmps142;go_wp2_with fail
 go_quiet (fail)
 go_wp2_with fail
 go_quiet (fail)
 go_upto_block 0 with fail
 have ecast:((u0:Int)*4294967296+(u1:Int))=(top:Int):=by have:=a3.out;omega
 rw[ecast,show (top:Int)/(v1:Int)=((top/v1:Nat):Int) from rfl,show (top:Int)%(v1:Int)=((top%v1:Nat):Int) from rfl];replace ecast:=Za ecast;generalize top/v1=q0 at *;generalize top%v1=r0 at *;have i0:WinF w g off (n+1) (w.drewN 0):=WinF.refl _ _ _ _
 go_cut [7,8] (λqv _ wx=>∃ q:Nat,qv=.int .u64 q/\Q<=q/\q<4294967296/\∃ m,wx=w.drewN m)
 case first =>
  go_wp2_with fail
  go_loopw [7,8] (λqv rv wr=>∃ q r:Nat,qv=.int .u64 q/\rv=.int .u64 r/\Q<=q/\q<8589934592/\Hid (q*v1+r=top)/\∃ m,wr=w.drewN m) (λqv _ _=>(intOf qv).toNat)
  case atStart=>exact⟨q0,r0,rfl,rfl,a0,c6,b4,_,World.drewN_drewN _ _ _⟩
  case round =>
   obtain⟨q,r,rfl,rfl,c2,c0,b3,m0,rfl⟩:=hrel;clear a0 c6 b4;have i6:r<18446744073709551616:=by have:=b3.out;omega
   by_cases hb32:4294967296<=q
   ·have d1:decide (4294967296<=q)=true:=by simpa using hb32
    have d2:decide ((4294967296:Int)<=(q:Int))=true:=by simp;omega
    have b5:0<q:=by omega
    have d0:r+v1<18446744073709551616:=by
     have h1:=b3.out;have h2:(q-1)*v1+v1=q*v1:=Zhv b5;omega
    have a6:Hid ((q-1)*v1+(r+v1)=top):=by
     have h1:=b3.out;have h2:(q-1)*v1+v1=q*v1:=Zhv b5;unfold Hid;omega
    have e7:IntKind.u64.wrap ((r:Int)+(v1:Int))=((r+v1:Nat):Int):=by rw[Qf];omega
    obtain⟨r1,a8⟩:=Gz (r+v1);rw[a8]at e7 d0 a6;replace a8:=Za a8;have a2:((q:Int)-1)=((q-1:Nat):Int):=by omega
    replace a2:=Za a2;by_cases hbrk:4294967296<=r1/\q-1<4294967296
    ·obtain⟨k1,k2⟩:=hbrk
     have d7:decide (4294967296<=r1)=true:=by simpa using k1
     have d8:decide ((4294967296:Int)<=(r1:Int))=true:=by simp;omega
     have d9:decide ((q:Int)-1<4294967296)=true:=by simp;omega
     go_wp2_with fail
     go_quiet (fail)
     go_wp2_with fail
     go_meet
     exact⟨q-1,by rw[a2.out],by omega,k2,_,(by first|rfl|exact World.drewN_drewN _ _ _)⟩
    ·have a4:Hid (∀ (k:Nat) (wx:World),wx=w.drewN k->((∃ q_1 r_1:Nat,Value.int IntKind.u64 ((q:Int)-1)=Value.int IntKind.u64 (q_1:Int)/\Value.int IntKind.u64 (r1:Int)=Value.int IntKind.u64 (r_1:Int)/\Q<=q_1/\q_1<8589934592/\Hid (q_1*v1+r_1=top)/\∃ m,wx=w.drewN m)/\(intOf (Value.int IntKind.u64 ((q:Int)-1))).toNat<(intOf (Value.int IntKind.u64 (q:Int))).toNat)):=
       λk wx hk=>⟨⟨q-1,r1,by rw[a2.out],rfl,by omega,by omega,a6,k,hk⟩,by simp[intOf];omega⟩
     by_cases k1:4294967296<=r1
     ·have k2:¬ q-1<4294967296:=λh=>hbrk ⟨k1,h⟩
      have d7:decide (4294967296<=r1)=true:=by simpa using k1
      have d8:decide ((4294967296:Int)<=(r1:Int))=true:=by simp;omega
      have d9:decide ((q:Int)-1<4294967296)=false:=by simp;omega
      go_wp2_with fail
      go_quiet (fail)
      go_wp2_with fail;exact a4.out _ _ ((by first|rfl|exact World.drewN_drewN _ _ _))
     ·have d7:decide (4294967296<=r1)=false:=by simpa using k1
      have d8:decide ((4294967296:Int)<=(r1:Int))=false:=by simp;omega
      go_wp2_with fail
      go_quiet (fail)
      go_wp2_with fail;exact a4.out _ _ ((by first|rfl|exact World.drewN_drewN _ _ _))
   ·have d1:decide (4294967296<=q)=false:=by simpa using hb32
    have d2:decide ((4294967296:Int)<=(q:Int))=false:=by simp;omega
    by_cases hr32:r<4294967296
    ·have d3:decide (r<4294967296)=true:=by simpa using hr32
     have d4:decide ((r:Int)<(4294967296:Int))=true:=by simp;omega
     obtain⟨p2,b6⟩:=Gz (q*v2);have g9:p2<18446744073709551616:=by rw[<- b6];exact Qp (QE (show q<=4294967295 by omega) (show v2<=4294967295 by omega)) (by decide)
     have hw:IntKind.u64.wrap ((q:Int)*(v2:Int))=(p2:Int):=by
      rw[show (q:Int)*(v2:Int)=(p2:Int) by rw[<- b6];push_cast;rfl,Qf];omega
     replace b6:=Za b6;by_cases ht5:r*4294967296+u2<p2
     ·have d5:decide (r*4294967296+u2<p2)=true:=Gv ht5
      have d6:decide ((r:Int)*4294967296+(u2:Int)<(p2:Int))=true:=Gv (by omega);have j0:Q<q:=a1.out q r b3.out (by rw[b6.out];exact ht5);have b5:0<q:=by omega
      have d0:r+v1<18446744073709551616:=by
       have h1:=b3.out;have h2:(q-1)*v1+v1=q*v1:=Zhv b5;omega
      have a6:Hid ((q-1)*v1+(r+v1)=top):=by
       have h1:=b3.out;have h2:(q-1)*v1+v1=q*v1:=Zhv b5;unfold Hid;omega
      have e7:IntKind.u64.wrap ((r:Int)+(v1:Int))=((r+v1:Nat):Int):=by rw[Qf];omega
      obtain⟨r1,a8⟩:=Gz (r+v1);rw[a8]at e7 d0 a6;replace a8:=Za a8;have a2:((q:Int)-1)=((q-1:Nat):Int):=by omega
      replace a2:=Za a2;by_cases hbrk:4294967296<=r1/\q-1<4294967296
      ·obtain⟨k1,k2⟩:=hbrk
       have d7:decide (4294967296<=r1)=true:=by simpa using k1
       have d8:decide ((4294967296:Int)<=(r1:Int))=true:=by simp;omega
       have d9:decide ((q:Int)-1<4294967296)=true:=by simp;omega
       go_wp2_with fail
       go_quiet (fail)
       go_wp2_with fail
       go_meet
       exact⟨q-1,by rw[a2.out],by omega,k2,_,(by first|rfl|exact World.drewN_drewN _ _ _)⟩
      ·have a4:Hid (∀ (k:Nat) (wx:World),wx=w.drewN k->((∃ q_1 r_1:Nat,Value.int IntKind.u64 ((q:Int)-1)=Value.int IntKind.u64 (q_1:Int)/\Value.int IntKind.u64 (r1:Int)=Value.int IntKind.u64 (r_1:Int)/\Q<=q_1/\q_1<8589934592/\Hid (q_1*v1+r_1=top)/\∃ m,wx=w.drewN m)/\(intOf (Value.int IntKind.u64 ((q:Int)-1))).toNat<(intOf (Value.int IntKind.u64 (q:Int))).toNat)):=
         λk wx hk=>⟨⟨q-1,r1,by rw[a2.out],rfl,by omega,by omega,a6,k,hk⟩,by simp[intOf];omega⟩
       by_cases k1:4294967296<=r1
       ·have k2:¬ q-1<4294967296:=λh=>hbrk ⟨k1,h⟩
        have d7:decide (4294967296<=r1)=true:=by simpa using k1
        have d8:decide ((4294967296:Int)<=(r1:Int))=true:=by simp;omega
        have d9:decide ((q:Int)-1<4294967296)=false:=by simp;omega
        go_wp2_with fail
        go_quiet (fail)
        go_wp2_with fail;exact a4.out _ _ ((by first|rfl|exact World.drewN_drewN _ _ _))
       ·have d7:decide (4294967296<=r1)=false:=by simpa using k1
        have d8:decide ((4294967296:Int)<=(r1:Int))=false:=by simp;omega
        go_wp2_with fail
        go_quiet (fail)
        go_wp2_with fail;exact a4.out _ _ ((by first|rfl|exact World.drewN_drewN _ _ _))
     ·have d5:decide (r*4294967296+u2<p2)=false:=Gu ht5
      have d6:decide ((r:Int)*4294967296+(u2:Int)<(p2:Int))=false:=Gu (by omega);go_wp2_with fail
      go_quiet (fail)
      go_wp2_with fail
      go_meet
      exact⟨q,rfl,c2,by omega,_,(by first|rfl|exact World.drewN_drewN _ _ _)⟩
    ·have d3:decide (r<4294967296)=false:=by simpa using hr32
     have d4:decide ((r:Int)<(4294967296:Int))=false:=by simp;omega
     go_wp2_with fail
     go_quiet (fail)
     go_wp2_with fail
     go_meet
     exact⟨q,rfl,c2,by omega,_,(by first|rfl|exact World.drewN_drewN _ _ _)⟩
 case rest =>
  obtain⟨q,rfl,c2,c0,m0,rfl⟩:=hcut;clear a0 c6 b4 a1;go_wp2_with fail;have g4:MutL (w.drewN m0) g off u:=hu;have c1:∀ (wr:World),WinF w g off (n+1) wr->Lim wr (some ⟨bv,ov,none⟩) n d v:=λwr h=>⟨hv.1,hv.2.1,hv.2.2.1,hv.2.2.2.1,λhn=>⟨bv,ov,rfl,λk hk=>(QH (a:=⟨bv,ov+k,none⟩) (h.1.block bv (Zo (hv.cell (k:=0) (by omega))) (λe=>hne (by injection e)))).trans (hv.cell hk)⟩⟩;replace c1:=Za c1
  go_loopw [11,10,9] (λiv cv bw wr=>∃ i cy b:Nat,i<=n+1/\iv=.int .i64 i/\cy<4294967296/\cv=.int .u64 cy/\b<=1/\bw=.int .i64 b/\DSub w g off n q u v i cy b wr/\(i=n+1->cy=0)) (λiv _ _ _=>n+1-(intOf iv).toNat)
  case atStart=>exact⟨0,0,0,by omega,rfl,by omega,rfl,by omega,rfl,⟨u,g4,a5.out,hut,λ_ _=>rfl,by simp[val],(WinF.refl _ _ _ _).drewN m0⟩,by omega⟩
  case round =>
   obtain⟨i,cy,b,g6,rfl,e5,rfl,f3,rfl,⟨l,hl,o,J,f,hI,hF⟩,f6⟩:=hrel;replace o:=Za o;replace f:=Za f;replace hI:=Za hI;have hy:=hut.get i;rcases QO i n with hi|hi|hi
   ·obtain⟨V,c8⟩:=hl i (by rw[o.out];omega)
    rw[f.out i (Qa _)]at V;have c9:=(c1.out _ hF).cell (k:=i) hi;have hx:=hv.lt.get i
    have C:∀ lo c' d' b':Nat,lo+4294967296*c'=cy+q*v[i]?.getD 0->d'+lo+b=u[i]?.getD 0+4294967296*b'->val ((l.set i d').take (i+1))+q*val (v.take (i+1))=val (u.take (i+1))+pw (i+1)*(c'+b'):=
     λlo c' d' b' h1 h2=>Zjt (by rw[o.out];omega) hI.out h1 h2
    replace C:=Za C;obtain⟨x,a9⟩:=Gz (v[i]?.getD 0);obtain⟨y,O⟩:=Gz (u[i]?.getD 0);rw[a9]at c9 hx C;rw[O]at V hy C;replace a9:=Za a9;replace O:=Za O;have hw:=Zr7 e5 c0 hx
    have e6:cy+q*x<18446744073709551616:=by
     have h:q*x<=4294967295*4294967295:=QE (by omega) (by omega);omega
    obtain⟨T,hT⟩:=Gz (cy+q*x);rw[hT]at hw e6 C
    have c5:bits BinOp.and IntKind.u64 (T:Int) 4294967295=((T%4294967296:Nat):Int):=by
     rw[show (4294967295:Int)=((4294967295:Nat):Int) from rfl,u64_and_nat _ _ e6 (by omega),show 4294967295=2^32-1 by rfl,Qu]
    have f5:T/4294967296<4294967296:=by omega
    replace hT:=Za hT;have g7:T%4294967296<4294967296:=Qo _ (by decide);obtain⟨lo,b2⟩:=Gz (T%4294967296);rw[b2]at c5 g7;replace b2:=Za b2;have hh:Hid (lo+4294967296*(T/4294967296)=T):=by unfold Hid;rw[<- b2.out];exact QT _ _
    by_cases hneg:(y:Int)-lo-b<0
    ·have d1:decide ((y:Int)-lo-b<0)=true:=Gv hneg
     go_wp2_with fail;obtain⟨d',b0⟩:∃ d':Nat,(y:Int)-lo-b+4294967296=(d':Int):=⟨((y:Int)-lo-b+4294967296).toNat,by omega⟩;rw[b0];have Y:d'<4294967296:=by omega
     have hfin:=C.out lo (T/4294967296) d' 1 hh.out (by omega);refine⟨⟨i+1,(T/4294967296),1,by omega,by go_num,f5,rfl,by omega,rfl,⟨l.set i d',hl.set_ (by rw[o.out];omega) d',by rw[Qi];exact o.out,J.set i Y,λj hj=>by rw[getD_set_ne _ (by omega)];exact f.out j (by omega),hfin,hF.set_ (by omega) _⟩,by omega⟩,by simp[intOf] <;> omega⟩
    ·have d1:decide ((y:Int)-lo-b<0)=false:=Gu hneg
     go_wp2_with fail;obtain⟨d',b0⟩:∃ d':Nat,(y:Int)-lo-b=(d':Int):=⟨((y:Int)-lo-b).toNat,by omega⟩;rw[b0];have Y:d'<4294967296:=by omega
     have hfin:=C.out lo (T/4294967296) d' 0 hh.out (by omega);refine⟨⟨i+1,(T/4294967296),0,by omega,by go_num,f5,rfl,by omega,rfl,⟨l.set i d',hl.set_ (by rw[o.out];omega) d',by rw[Qi];exact o.out,J.set i Y,λj hj=>by rw[getD_set_ne _ (by omega)];exact f.out j (by omega),hfin,hF.set_ (by omega) _⟩,by omega⟩,by simp[intOf] <;> omega⟩
   ·subst hi
    obtain⟨V,c8⟩:=hl i (by rw[o.out];omega);rw[f.out i (Qa _)]at V
    have C:∀ d' b':Nat,d'+cy+b=u[i]?.getD 0+4294967296*b'->val ((l.set i d').take (i+1))+q*val (v.take (i+1))=val (u.take (i+1))+pw (i+1)*(0+b'):=
     λd' b' h2=>Zjt (by rw[o.out];omega) hI.out (by rw[getD_none (by rw[a7.out];exact Qa _),Qs,Qs,QN]) h2
    replace C:=Za C;obtain⟨y,O⟩:=Gz (u[i]?.getD 0);rw[O]at V hy C;replace O:=Za O
    have c5:bits BinOp.and IntKind.u64 (cy:Int) 4294967295=(cy:Int):=by
     rw[show (4294967295:Int)=((4294967295:Nat):Int) from rfl,u64_and_nat _ _ (by omega) (by omega),show 4294967295=2^32-1 by rfl,Qu,QR e5]
    have h9:(cy:Int)/4294967296=0:=by omega
    by_cases hneg:(y:Int)-cy-b<0
    ·have d1:decide ((y:Int)-cy-b<0)=true:=Gv hneg
     go_wp2_with fail;obtain⟨d',b0⟩:∃ d':Nat,(y:Int)-cy-b+4294967296=(d':Int):=⟨((y:Int)-cy-b+4294967296).toNat,by omega⟩;rw[b0];have Y:d'<4294967296:=by omega
     have hfin:=C.out d' 1  (by omega);refine⟨⟨i+1,0,1,by omega,by go_num,(by omega),by go_num,by omega,rfl,⟨l.set i d',hl.set_ (by rw[o.out];omega) d',by rw[Qi];exact o.out,J.set i Y,λj hj=>by rw[getD_set_ne _ (by omega)];exact f.out j (by omega),hfin,hF.set_ (by omega) _⟩,by omega⟩,by simp[intOf] <;> omega⟩
    ·have d1:decide ((y:Int)-cy-b<0)=false:=Gu hneg
     go_wp2_with fail;obtain⟨d',b0⟩:∃ d':Nat,(y:Int)-cy-b=(d':Int):=⟨((y:Int)-cy-b).toNat,by omega⟩;rw[b0];have Y:d'<4294967296:=by omega
     have hfin:=C.out d' 0  (by omega);refine⟨⟨i+1,0,0,by omega,by go_num,(by omega),by go_num,by omega,rfl,⟨l.set i d',hl.set_ (by rw[o.out];omega) d',by rw[Qi];exact o.out,J.set i Y,λj hj=>by rw[getD_set_ne _ (by omega)];exact f.out j (by omega),hfin,hF.set_ (by omega) _⟩,by omega⟩,by simp[intOf] <;> omega⟩
   ·obtain rfl:i=n+1:=by omega
    obtain rfl:cy=0:=f6 rfl
    have b1:Hid (val l+q*val v=val u+pw (n+1)*b):=by
     have h1:=hI.out;rw[Zae (by rw[o.out];exact Qa _),Zae (by rw[a7.out];omega),Zae (by rw[a5.out];exact Qa _),Qr]at h1;exact h1
    clear hI f f6;have c7:Q<=q:=c2;go_wp2_with fail
    go_loopw [9,7] (λbw qw wr=>∃ (q b:Nat) (l:List Nat),bw=.int .i64 b/\qw=.int .u64 q/\b<=1/\Q<=q/\q<4294967296/\MutL wr g off l/\l.length=n+1/\Lt32 l/\Hid (val l+q*val v=val u+pw (n+1)*b)/\WinF w g off (n+1) wr) (λ_ qw _=>(intOf qw).toNat)
    case atStart=>exact⟨q,b,l,rfl,rfl,f3,c7,c0,hl,o.out,J,b1,hF⟩
    case round =>
     clear b1 hl o J hF;obtain⟨q,b,l,rfl,rfl,f3,c7,c0,hl,o,J,b1,hF⟩:=hrel;replace o:=Za o;rcases Qb b with rfl|i9
     ·obtain⟨c4,c3⟩:=Zon (U:=val u) (q:=q) (W:=val l) hV (by have:=b1.out;rw[Qs]at this;exact this) (by rw[hQ.out];exact c7)
      have hP:Hid (Zz0 w g off u v (.returned (limb q)) wr):=⟨l,by rw[<- c4],by rw[o.out,a5.out],J,c3,hl,by rw[a5.out];exact hF⟩;have i1:((q:Int))%4294967296=(q:Int):=by omega
      clear c4 c3 b1;go_wp2_with fail;go_ret;exact hP.out
     ·obtain rfl:b=1:=by omega
      have g2:Q<q:=by
       have:=Zm8 (q:=q) (W:=val l) (M:=pw (n+1)) hV (by have:=b1.out;rw[QD]at this;exact this) (by have:=Zgm J;rw[o.out]at this;exact this);rw[hQ.out]at this;exact this
      go_wp2_with fail
      go_loopw [13,10] (λiv cv wr=>∃ i cy:Nat,i<=n+1/\iv=.int .i64 i/\cy<=1/\cv=.int .u64 cy/\DAdd w g off n l v i cy wr) (λiv _ _=>n+1-(intOf iv).toNat)
      case atStart=>exact⟨0,0,by omega,rfl,by omega,rfl,l,hl,o.out,J,λ_ _=>rfl,by simp[val],hF⟩
      case round =>
       obtain⟨i,cy,g6,rfl,e5,rfl,l2,b8,I,b7,f,hI,b9⟩:=hrel;replace I:=Za I;replace f:=Za f;replace hI:=Za hI;have f8:=J.get i;rcases QO i n with hi|hi|hi
       ·obtain⟨V,c8⟩:=b8 i (by rw[I.out];omega)
        rw[f.out i (Qa _)]at V;have c9:=(c1.out _ b9).cell (k:=i) hi;have hx:=hv.lt.get i
        have C:∀ s c':Nat,s+4294967296*c'=cy+l[i]?.getD 0+v[i]?.getD 0->val ((l2.set i s).take (i+1))+pw (i+1)*c'=val (l.take (i+1))+val (v.take (i+1)):=
         λs c' h=>Zn9 (by rw[I.out];omega) hI.out h
        replace C:=Za C;obtain⟨x,a9⟩:=Gz (v[i]?.getD 0);obtain⟨y,O⟩:=Gz (l[i]?.getD 0);rw[a9]at c9 hx C;rw[O]at V f8 C;replace a9:=Za a9;replace O:=Za O;go_wp2_with fail;have e1:((cy:Int)+y+x)%4294967296=(((cy+y+x)%4294967296:Nat):Int):=by omega
        have e2:((cy:Int)+y+x)/4294967296=(((cy+y+x)/4294967296:Nat):Int):=by omega
        rw[e1,e2];refine⟨⟨i+1,(cy+y+x)/4294967296,by omega,by go_num,by omega,rfl,l2.set i ((cy+y+x)%4294967296),b8.set_ (by rw[I.out];omega) _,by rw[Qi];exact I.out,b7.set i (by omega),λj hj=>by rw[getD_set_ne _ (by omega)];exact f.out j (by omega),C.out _ _ (by omega),b9.set_ (by omega) _⟩,by simp[intOf] <;> omega⟩
       ·subst hi
        obtain⟨V,c8⟩:=b8 i (by rw[I.out];omega);rw[f.out i (Qa _)]at V
        have C:∀ s c':Nat,s+4294967296*c'=cy+l[i]?.getD 0->val ((l2.set i s).take (i+1))+pw (i+1)*c'=val (l.take (i+1))+val (v.take (i+1)):=
         λs c' h=>Zn9 (by rw[I.out];omega) hI.out (by rw[getD_none (l:=v) (by rw[a7.out];exact Qa _),QN];exact h)
        replace C:=Za C;obtain⟨y,O⟩:=Gz (l[i]?.getD 0);rw[O]at V f8 C;replace O:=Za O;go_wp2_with fail;have e1:((cy:Int)+y)%4294967296=(((cy+y)%4294967296:Nat):Int):=by omega
        have e2:((cy:Int)+y)/4294967296=(((cy+y)/4294967296:Nat):Int):=by omega
        rw[e1,e2];refine⟨⟨i+1,(cy+y)/4294967296,by omega,by go_num,by omega,rfl,l2.set i ((cy+y)%4294967296),b8.set_ (by rw[I.out];omega) _,by rw[Qi];exact I.out,b7.set i (by omega),λj hj=>by rw[getD_set_ne _ (by omega)];exact f.out j (by omega),C.out _ _ (by omega),b9.set_ (by omega) _⟩,by simp[intOf] <;> omega⟩
       ·obtain rfl:i=n+1:=by omega
        have hfin:Hid (val l2+(q-1)*val v=val u+pw (n+1)*(1-cy)):=by
         have h1:=hI.out;rw[Zae (by rw[I.out];exact Qa _),Zae (by rw[o.out];exact Qa _),Zae (by rw[a7.out];omega)]at h1;have h2:=b1.out;have h3:=Zhv (v:=val v) (show 0<q by omega);rw[QD]at h2;unfold Hid;rcases Qb cy with rfl|h0
         ·rw[Qs]at h1
          rw[Nat.sub_zero,QD];omega
         ·obtain rfl:cy=1:=by omega
          rw[QD]at h1;rw[Nat.sub_self,Qs];omega
        clear hI f;have e3:((q:Int)-1)=((q-1:Nat):Int):=by omega
        have e4:((1:Int)-cy)=((1-cy:Nat):Int):=by omega
        replace e3:=Za e3;replace e4:=Za e4;go_wp2_with fail
        go_roundw
        case rel=>exact⟨q-1,1-cy,l2,by rw[<- e4.out],by rw[<- e3.out],by omega,by omega,by omega,b8,I.out,b7,hfin,b9⟩
        case measure=>simp[intOf] <;> omega
theorem DivR.step2{w wr w5:World}{g q:Nat}{A:Option Addr}{c m nq:Nat}{vl lu lq:List Nat}{a b s k:Nat}{l:List Nat}(hD:DivI (2^s*a) (2^s*b) m lu lq (k+1))(hq:lq.length=nq)(hM:MutL wr g 0 lu)(hB:Blk wr q 106 (Zw lq))
    (hL:Lim wr A m c vl) (hw:Below w.heap.size w wr) (hv:val vl=2^s*b) (hlen:l.length=m+1) (hlt:Lt32 l) (hl:val l=val ((lu.drop k).take (m+1))%val vl) (hQ:val ((lu.drop k).take (m+1))/val vl<4294967296)
    (hl5:MutL w5 g k l) (hF:WinF wr g k (m+1) w5) (hgq:g≠q) (hA:∀ b o,A=some ⟨b,o,none⟩->b≠g/\b≠q) (hg:w.heap.size<=g) (hqs:w.heap.size<=q) :
    DivR w g q A c m nq vl a b s k (w5.setCell ⟨q,k,none⟩ (limb (val ((lu.drop k).take (m+1))/val vl))):=by
 have h:2^s*b<=pw m:=by rw[<- hv];exact Qz hL.lt_pw
 have f:k+l.length<=lu.length:=by have:=hD.2.2.1;have:=hD.2.2.2.1;omega
 have u:Blk w5 q 106 (Zw lq):=(hF.1.block q hB.lt (λe=>hgq (by injection e with e;exact e.symm))).trans hB
 refine⟨splice lu k l,lq.set k (val ((lu.drop k).take (m+1))/val vl),hD.step h hlen hlt hQ (by rw[hv]) (by rw[<- hv];exact hl),by rw[Qi];exact hq,
  (Zt3 hM f (by rw[hlen];exact hF) hl5).far hgq,?_,Lim.far ?_ (λb o e=>(hA b o e).2),?_⟩
 rw[<- Zb3];exact u.set_ _ _
 ·exact⟨hL.1,hL.2.1,hL.2.2.1,hL.2.2.2.1,λhn=>by
    obtain⟨b,o,e,hc⟩:=hL.2.2.2.2 hn;exact⟨b,o,e,λj hj=>(QH (a:=⟨b,o+j,none⟩) (hF.1.block b (Zo (hc 0 hn)) (λe2=>(hA b o e).1 (by injection e2)))).trans (hc j hj)⟩⟩
 exact(hw.grown hF.1 hw.size (λj hj=>by injection hj with hj;omega)).setCell (p:=⟨q,k,none⟩) hqs _
def ShiftI(x:Nat)(sv:Value):Prop:=∃ s:Nat,sv=.int .u64 (s:Int)/\s<=31/\2^s*x<4294967296
def ShrR(w0:World)(s:Nat)(rest:List Nat)(i:Nat)(v:Value)(wr:World):Prop:=
 ∃ o,OwnL 106 wr w0.heap.size v o/\o.length=i/\val o+pw i*(val (rest.drop i)/2^s)=val rest/2^s/\Below w0.heap.size w0 wr
theorem Zx5(A B:Option Addr)(n c m d:Nat)(a b:Nat)(w:World)(ha:Lim w A n c (digits a))(hb:Lim w B m d (digits b))(hn:n<=100000)(h:a<b) :
    Calls Tryz.prog 98 #[.slice A n c,.slice B m d] w (Zqa w a b):=by
 have y:Hid (Zck (digits a) (digits b)<0):=by
  have:=(Zhp (va:=a) (vb:=b));unfold Hid;omega
 obtain⟨cv,f⟩:∃ x:Int,Zck (digits a) (digits b)=x:=⟨_,rfl⟩;have J:cv<0:=by rw[<- f];exact y.out
 have HC:=Za f;clear y f;go_enter Tryz.func98,Tryz.ntmps98;go_wp2_with fail;refine(Zc9 _ _ _ _ _ _ _ _ _ ha hb).mono ?_;rintro e w1 ⟨C,o⟩;rw[HC.out]at C;subst C;go_wp2_with fail;refine(Zd8 _ _ _ _ _ (ha.below o) (by omega)).mono ?_;rintro e w2 ⟨A2,n2,c2,l2,rfl,hL,u,I⟩;replace u:=Za u;go_wp2_with fail
 go_ret2
 have hB:Below w.heap.size w w2:=o.trans (I.mono o.size);exact⟨_,_,_,_,_,_,rfl,by rw[Nat.div_eq_of_lt h,Zat];exact Lim.nil _ _ _ (QC _),by rw[QR h];have:=u.out;rw[Zj]at this;rw[<- this];exact hL,hB⟩
theorem Zzk(A B:Option Addr)(n c m d:Nat)(a b:Nat)(w:World)(ha:Lim w A n c (digits a))(hb:Lim w B m d (digits b))(hn:n<=100000)(h:b<=a)(hm:m=1) :
    Calls Tryz.prog 98 #[.slice A n c,.slice B m d] w (Zqa w a b):=by
 subst hm;have a5:=ha.2.1;have Y:=ha.2.2.1;have a6:=hb.2.1;have a0:=hb.2.2.1;unfold maxLen at Y a0;obtain⟨cv,u⟩:∃ x:Int,Zck (digits a) (digits b)=x:=⟨_,rfl⟩;have C:¬ cv<0:=by rw[<- u];have:=(Zhp (va:=a) (vb:=b));omega
 have a1:decide (cv<0)=false:=by simpa using C
 have HC:=Za u;clear u C;obtain⟨I,a4,O⟩:=Zl5 hb.len;obtain⟨g,o,rfl,f⟩:=hb.at_ (k:=0) (by omega);rw[I]at f;simp at f;replace I:=Za I;have a2:=Za (Zj a);go_enter Tryz.func98,Tryz.ntmps98;go_wp2_with fail;refine(Zc9 _ _ _ _ _ _ _ _ _ ha hb).mono ?_;rintro e w1 ⟨T,y⟩;rw[HC.out]at T;subst T;have V:=Zb y f;go_wp2_with fail;refine(Zt6 _ _ _ b _ _ (ha.below y) a4 O (by omega)).mono ?_;rintro e w2 ⟨A2,n2,c2,A3,n3,c3,rfl,J,U,a3⟩;rw[a2.out]at J U;go_wp2_with fail
 go_ret2
 exact⟨_,_,_,_,_,_,rfl,J,U,y.trans (a3.mono y.size)⟩
theorem Zw1(A B:Option Addr)(n c m d:Nat)(a b:Nat)(w:World)(ha:Lim w A n c (digits a))(hb:Lim w B m d (digits b))(hn:n<=100000)(h:b<=a)(hm:2<=m) :
    Calls Tryz.prog 98 #[.slice A n c,.slice B m d] w (Zqa w a b):=by
 have p0:=ha.2.1;have m5:=ha.2.2.1;have o9:=hb.2.1;have l9:=hb.2.2.1;unfold maxLen at m5 l9;have m7:m<=n:=by have:=Z4 h;rw[ha.len,hb.len]at this;exact this
 obtain⟨i0,hi,f9,h4,f5⟩:=info_parts Zdo;have p1:=Zhm (P:=Tryz.prog) 37 106 Tryz.underlying37 hi f9 h4 f5 ((n:Int)+1-m) (n+1-m) (by omega) (by omega);obtain⟨cv,b4⟩:∃ x:Int,Zck (digits a) (digits b)=x:=⟨_,rfl⟩;have e5:¬ cv<0:=by rw[<- b4];have:=(Zhp (va:=a) (vb:=b));omega
 have l4:decide (cv<0)=false:=by simpa using e5
 have HC:=Za b4;clear b4 e5;have p2:((m:Int) == 1)=false:=by simp;omega
 obtain⟨g,o,rfl,O⟩:=hb.at_ (k:=m-1) (by omega);have f:=hb.len;have e3:=Zfy (v:=b) (by omega);have g7:=Zpt f (by omega);have c1:=hb.lt.get (m-1);have i6:=Zcp b;rw[f]at e3 i6;have b2:=Zia f (by omega) hb.lt;rw[Zj]at g7 b2;obtain⟨x,hx⟩:=Gz ((digits b)[m-1]?.getD 0);rw[hx]at O e3 g7 c1 b2;replace f:=Za f;replace hx:=Za hx;have a5:=Za (Zj a);have a6:=Za (Zj b);go_enter Tryz.func98,Tryz.ntmps98;go_wp2_with fail;refine(Zc9 _ _ _ _ _ _ _ _ _ ha hb).mono ?_;rintro e w1 ⟨j4,U⟩;rw[HC.out]at j4;subst j4;have b9:=Zb U O;have l5:0<x:=by omega
 go_wp2_with fail
 go_loop [7] (λsv=>ShiftI x sv) (λsv=>31-(intOf sv).toNat)
 case atStart=>exact⟨0,rfl,by omega,by simpa using c1⟩
 case round =>
  obtain⟨s,rfl,n6,i5⟩:=hrel
  have l1:IntKind.u32.wrap ((x:Int)*2^s)=((2^s*x:Nat):Int):=by
   have e1:((x:Int)*2^s)=((2^s*x:Nat):Int):=by push_cast;rw[Int.mul_comm]
   rw[e1,IntKind.wrap_u32];omega
  obtain⟨y,hy⟩:=Gz (2^s*x);rw[hy]at l1 i5;by_cases hlt2:y<2147483648
  ·have n3:s<31:=by
     rcases Qy s 31 with h'|h';exact h'
     ·exfalso
      obtain rfl:s=31:=by omega
      have:2^31*1<=2^31*x:=Qd _ l5;rw[hy]at this;simp at this;omega
   have n0:2^(s+1)*x<4294967296:=by rw[Nat.pow_succ,Qq (2^s),Qm,hy];omega
   replace hy:=Za hy;have d1:decide (y<2147483648)=true:=Gv hlt2;have d2:decide ((y:Int)<2147483648)=true:=Gv (by omega);clear hlt2;go_wp2_with fail;exact⟨⟨s+1,by go_num,by omega,n0⟩,by simp[intOf];omega⟩
  ·replace hy:=Za hy
   have d1:decide (y<2147483648)=false:=Gu hlt2;have d2:decide ((y:Int)<2147483648)=false:=Gu (by omega);clear hlt2;go_wp2_with fail;have o6:2147483648<=y:=by have:=of_decide_eq_false d1;omega
   clear d1 d2;have hs:s<32:=by omega
   have hxs:x+1<=2^(32-s):=by
    have h1:2^s*x<2^s*2^(32-s):=by
     rw[<- Nat.pow_add,show s+(32-s)=32 by omega,hy.out];exact i5
    exact Nat.lt_of_mul_lt_mul_left h1
   have k9:=ha.below U;have k8:=hb.below U;refine(Zo4 _ m d s (digits b) _ k8 hs (by omega)).mono ?_;rintro e w3 ⟨v3,o3,rfl,g2,a8,b5,b7⟩;obtain⟨g3,c3,a3,o8,n9,k2,c9,k1⟩:=g2.mut (by omega);rw[a8]at a3 k2;subst a3;have l6:Lim w3 (some ⟨g3,0,none⟩) (m+1) c3 o3:=k1.lim a8 k2 c9 g2.2;unfold maxLen at c9;replace a8:=Za a8;replace b5:=Za b5;clear g2 k1;go_wp2_with fail;refine(Zo4 A n c s (digits a) _ (k9.below b7) hs (by omega)).mono ?_;rintro e w4 ⟨v4,o4,rfl,e7,b3,b1,f8⟩;obtain⟨g4,c4,d0,o7,o0,i8,j3,j2⟩:=e7.mut (by omega);rw[b3]at d0 i8;subst d0;unfold maxLen at j3;replace b3:=Za b3;replace b1:=Za b1;go_wp2_with fail;replace a6:=a6.out;replace a5:=a5.out;rw[a6]at b5;rw[a5]at b1;have c2:=a8.out;have a3:=b5.out
   have j5:2^s*(x+1)<=4294967296:=by
    have h1:2^s*(x+1)<=2^s*2^(32-s):=Qd _ hxs;rw[<- Nat.pow_add,show s+(32-s)=32 by omega]at h1;exact h1
   have c5:2^s*b<pw m:=by
    have h1:2^s*b<2^s*((x+1)*pw (m-1)):=Qx b2 (Qv (by omega));have h2:2^s*((x+1)*pw (m-1))<=4294967296*pw (m-1):=by rw[<- Qm];exact QI _ j5
    rw[<- Za3,show m-1+1=m by omega]at h2;omega
   have a9:val (o3.take m)=2^s*b:=by
    have h1:=Zag o3 m (by omega);rcases Qb (val (o3.drop m))with h0|h0;rw[h0]at h1;omega;have:=Qd (pw m) h0;omega
   have i9:=(l6.take (k:=m) (by omega)).below f8
   have b6:y*pw (m-1)<=2^s*b:=by
    have h1:2^s*(x*pw (m-1))<=2^s*b:=Qd _ g7;rw[<- Qm,hy.out]at h1;exact h1
   have k5:2147483648<=(o3.take m)[m-1]?.getD 0:=by
    have h1:=Zia (v:=o3.take m) (n:=m) (by rw[QS,c2];omega) (by omega) i9.lt;rw[a9]at h1;have h2:=Nat.lt_of_mul_lt_mul_right (Qp b6 h1);omega
   have f7:Below w.heap.size w w4:=(U.trans (b7.mono U.size)).trans (f8.mono (Qe U.size b7.size))
   have b8:DivR w g4 w4.heap.size (some ⟨g3,0,none⟩) c3 m (n+1-m) (o3.take m) a b s (n+1-m) (w4.alloc (.cells (Zw (QV (n+1-m) 0)) 106)):=by
    have h1:=DivI.start (a:=digits a) (b:=digits b) (u:=o4) (s:=s) (n:=m) (by rw[a5];exact b1.out) (by rw[b3.out,ha.len]) e7.2 (by rw[ha.len];exact m7) ha.lt (by rw[a6];have:=QI (pw (m-1)) (show 1<=x by omega);omega) (by omega);rw[a5,a6,ha.len]at h1;exact⟨o4,_,h1,by simp,j2.below ((Qc _ _).alloc (Qa _) _),Qg _ _ _,i9.alloc _,f7.alloc f7.size _⟩
   have m6:∀ b o,some (⟨g3,0,none⟩:Addr)=some ⟨b,o,none⟩->b≠g4/\b≠w4.heap.size:=λb o e=>by
    injection e with e
    injection e with e1 e2
    have:=f8.size;omega
   have l0:w.heap.size<=g4:=by have:=U.size;have:=b7.size;omega
   have i7:g4≠w4.heap.size:=by omega
   have f6:g3≠g4:=by omega
   clear j2 e7 b3 b1 b5 a8 a5 a6 O b9 a3 c2;replace a9:=Za a9;replace b6:=Za b6
   go_loopw [11] (λjv wr=>∃ k:Nat,k<=n+1-m/\jv=.int .i64 ((k:Int)-1)/\DivR w g4 w4.heap.size (some ⟨g3,0,none⟩) c3 m (n+1-m) (o3.take m) a b s k wr) (λjv _=>(intOf jv+1).toNat)
   case atStart=>exact⟨n+1-m,Qa _,rfl,b8⟩
   case round =>
    obtain⟨k,hk,rfl,lu,lq,hD,hq,hM,V,i2,g8⟩:=hrel;replace hq:=Za hq;rcases k with _|k
    ·obtain⟨e1,e2⟩:=hD.stop
     have n2:0<b:=by
      rcases Qb b with h0|h0
      ·subst h0
       rw[Zat]at f;have:=f.out;simp at this;omega
      exact h0
     have f3:Lim wr (some ⟨g4,0,none⟩) (n+1) c4 lu:=hM.lim (by have:=hD.2.2.1;have:=hq.out;omega) i8 (by unfold maxLen;omega) hD.1
     have m8:Lim wr (some ⟨w4.heap.size,0,none⟩) (n+1-m) (n+1-m) lq:=by
      have:=Lim.of_blk V hD.2.1 (by rw[hq.out];unfold maxLen;omega);rw[hq.out]at this;exact this
     have j6:val (lu.take m)=2^s*(a%b):=by
      have h1:=Zag lu m (by rw[f3.len];omega);have h2:2^s*(a%b)<2^s*b:=Qx (Qo _ n2) (Qv (by omega));rcases Qb (val (lu.drop m))with h0|h0;rw[h0]at h1;omega;have:=Qd (pw m) h0;omega
     have a7:=f3.take (k:=m) (by omega)
     have j9:Hid (val (lu.take m)/2^s=a%b):=by
      unfold Hid;rw[j6,Nat.mul_div_cancel_left _ (Qv (by omega))]
     obtain⟨rs,j8⟩:=Gz (lu.take m);rw[j8]at a7 j9;have f0:=Za a7.len;replace e1:=Za e1;clear hD e2 j6 j8 hM V f3 b6 a9 k5 c5;go_wp2_with fail;obtain⟨wo,rfl⟩:=Gy wr
     go_loopw [14,13] (λiv ov wr=>∃ i:Nat,i<=m/\iv=.int .i64 i/\ShrR wo s rs i ov wr) (λiv _ _=>m-(intOf iv).toNat)
     case atStart=>exact⟨0,QC _,rfl,[],OwnL.nil _ _ _,rfl,by simp[val,Zem],Qc _ _⟩
     case round =>
      obtain⟨i,o1,rfl,o,C,J,hI,hB⟩:=hrel;replace J:=Za J;replace hI:=Za hI;have e6:=a7.below hB;by_cases him:i<m
      ·have a1:=Zzi (r:=rs) (i:=i) (s:=s) (by omega) (by rw[f0.out];exact him) a7.lt
       have k7:=e6.cell him;rw[Qr]at k7;have l3:=a7.lt.get i;have n1:=a7.lt.get (i+1);obtain⟨p,hp⟩:=Gz (2^s);have o2:0<p:=by rw[<- hp];exact Qv (by omega)
       have n4:(0:Int)<(p:Int):=by omega
       have g5:((2:Int)^s)=(p:Int):=by rw[<- hp];push_cast;rfl
       rw[hp]at a1;obtain⟨y0,e9⟩:=Gz (rs[i]?.getD 0);obtain⟨y1,a0⟩:=Gz (rs[i+1]?.getD 0);rw[e9]at k7 l3 a1;rw[a0]at n1 a1;replace a1:=Za a1;replace e9:=Za e9;obtain⟨X,hX⟩:=Gz (y0+4294967296*y1);rw[hX]at a1;have o5:X<18446744073709551616:=by omega
       have k6:Hid (∀ (v1:Value) (w1:World) (Z:Int),Z=((X/p%4294967296:Nat):Int)->w1.ownsRow wo.heap.size 106 1 v1 (i+1) (o.map limb ++ [.int .u32 Z])->Below wo.heap.size wo w1->ShrR wo s rs (i+1) v1 w1):=λv1 w1 Z hZ h1 h2=>by
        refine⟨o ++ [X/p%4294967296],OwnL.snoc J.out.symm h1 C.2 hZ (Qo _ (by decide)),by rw[Qw,J.out];rfl,?_,h2⟩;rw[Zes,J.out,hp];have h3:=hI.out;rw[hp,a1.out]at h3;rw[<- h3,Za3,Qn,Qq 4294967296 (pw i),Qm];omega
       have I:∀ Y:Int,Y=(X:Int)->Y/2^s%4294967296=((X/p%4294967296:Nat):Int):=λY hY=>by
        rw[hY,g5,show (X:Int)/(p:Int)=((X/p:Nat):Int) from rfl];generalize X/p=z at *;omega
       have c0:∀ Y:Int,Y=(X:Int)->IntKind.u32.wrap (Y/2^s)=((X/p%4294967296:Nat):Int):=λY hY=>by
        rw[IntKind.wrap_u32];exact I Y hY
       replace I:=Za I;replace c0:=Za c0;replace g5:=Za g5;replace hp:=Za hp;by_cases him2:i+1<m
       ·have i1:=e6.cell him2
        rw[Qr]at i1;have b0:Hid ((y0:Int)+(y1:Int)*4294967296=(X:Int)):=by unfold Hid;omega
        replace hX:=Za hX;rw[a0]at i1;replace a0:=Za a0;go_wp2_with (at_builtin;refine Zu _ rfl (.tmp 101) (.tmp 106) 37 rfl wo.heap.size 106 i0 _ 1 4 Tryz.underlying37 hi f9 h4 f5 rfl (by omega) _ i (o.map limb) rfl (by have:=J.out;subst this;exact C.1.alloc _) _ _ 1 1 _ rfl (Zbx _ _ _) (by simp[Value.oneCell']) (by simp only[maxLen];omega) (by omega) (by have:=hB.size;simp;omega) ?_;intro v1 w1 T f4 j7);have g6:=(hB.alloc hB.size _).grown f4 (by have:=hB.size;simp;omega) C.row_ge
        go_roundw
        case rel=>((repeat apply Exists.intro);exact⟨⟨i+1,by omega,by go_num,k6.out _ _ _ (by first|exact c0.out _ b0.out|exact I.out _ b0.out) T g6⟩,rfl⟩)
        case measure=>simp[intOf];omega
       ·have b0:Hid ((y0:Int)=(X:Int)):=by
          have:y1=0:=by rw[<- a0];exact getD_none (by rw[f0.out];omega)
          unfold Hid;omega
        replace hX:=Za hX;replace a0:=Za a0;have d9:decide (i+1<m)=false:=Gu him2;have d8:decide ((i:Int)+1<(m:Int))=false:=Gu (by omega);go_wp2_with (at_builtin;refine Zu _ rfl (.tmp 101) (.tmp 106) 37 rfl wo.heap.size 106 i0 _ 1 4 Tryz.underlying37 hi f9 h4 f5 rfl (by omega) _ i (o.map limb) rfl (by have:=J.out;subst this;exact C.1.alloc _) _ _ 1 1 _ rfl (Zbx _ _ _) (by simp[Value.oneCell']) (by simp only[maxLen];omega) (by omega) (by have:=hB.size;simp;omega) ?_;intro v1 w1 T f4 j7);have g6:=(hB.alloc hB.size _).grown f4 (by have:=hB.size;simp;omega) C.row_ge
        go_roundw
        case rel=>((repeat apply Exists.intro);exact⟨⟨i+1,by omega,by go_num,k6.out _ _ _ (by first|exact c0.out _ b0.out|exact I.out _ b0.out) T g6⟩,rfl⟩)
        case measure=>simp[intOf];omega
      ·obtain rfl:i=m:=by omega
       have m9:Hid (val o=a%b):=by
        have h1:=hI.out;rw[Qt (by rw[f0.out];exact Qa _)]at h1;simp only[val,Nat.zero_div,Qs,QN]at h1;unfold Hid;rw[h1];exact j9.out
       obtain⟨A6,c6,k4,h8⟩:=C.lim;rw[J.out]at k4 h8;subst k4;have i4:=m8.below hB;go_wp2_with fail;refine(Zd8 _ _ _ _ _ i4 (by omega)).mono ?_;rintro e w7 ⟨A7,n7,c7,l7,rfl,h9,rfl,e8⟩;go_wp2_with fail;refine(Zd8 _ _ _ _ _ (h8.below e8) (by omega)).mono ?_;rintro e w8 ⟨A8,n8,c8,l8,rfl,k3,rfl,j1⟩;rw[e1.out]at h9;rw[m9.out]at k3;go_wp2_with fail
       go_ret2
       have g9:Below w.heap.size w wr:=g8.trans (hB.mono g8.size);exact⟨_,_,_,_,_,_,rfl,h9.below j1,k3,(g9.trans (e8.mono g9.size)).trans (j1.mono (Qe g9.size e8.size))⟩
    ·have m1:=hD
     obtain⟨d1,d2,d3,d4,d5,d6,d7⟩:=m1;replace d3:=Za d3;replace d5:=Za d5;replace d7:=Za d7;have j0:=V.cell k;rw[Za5 lq k (by rw[hq.out];omega)]at j0;have l2:=V.frozen k;go_wp2_with fail;have m0:2^s*b<=pw m:=Qz c5;obtain⟨h5,h7⟩:=hD.win m0;have a2:((lu.drop k).take (m+1)).length=m+1:=by rw[QS,List.length_drop,d3.out];omega
     have m3:MutL wr g4 k ((lu.drop k).take (m+1)):=by
      have:=hM.win (k:=k) (n:=m+1) (by rw[d3.out];omega)
      rwa [Qr]at this
     have a4:val ((lu.drop k).take (m+1))<4294967296*val (o3.take m):=by rw[h5,a9.out];exact h7
     rw[show k+m+1-k=m+1 by omega];refine(Zw3 g4 k m (c4-k) c3 g3 0 _ _ _ m3 a2 ((d1.drop k).take (m+1)) (by omega) (by unfold maxLen;omega) (by omega) (by omega) i2 f6 a4 k5).mono ?_;rintro e w5 ⟨l,rfl,g0,h6,i3,m4,g1⟩
     have e4:val ((lu.drop k).take (m+1))/val (o3.take m)<4294967296:=by
      have m2:0<val (o3.take m):=by
       rcases Qb (val (o3.take m))with h0|h0;rw[h0]at a4;omega;exact h0
      rw[Qh m2];exact a4
     rw[a2]at g0 g1;have hfin:=DivR.step2 (wr:=wr) hD hq.out hM V i2 g8 a9.out g0 h6 i3 e4 m4 g1 i7 m6 l0 f7.size;have e0:Blk w5 w4.heap.size 106 (Zw lq):=(g1.1.block _ V.lt (λe=>i7 (by injection e with e;exact e.symm))).trans V;have k0:=e0.cell k;rw[Za5 lq k (by rw[hq.out];omega)]at k0;have n5:=e0.frozen k;obtain⟨Q,hQ⟩:=Gz (val ((lu.drop k).take (m+1))/val (o3.take m));rw[hQ]at hfin e4 ⊢;clear j0 l2 i3 g0 hQ h5 a2 a4 h7;replace hfin:=Za hfin;go_wp2_with fail
     go_roundw
     case rel=>exact⟨k,by omega,by go_num,hfin.out⟩
     case measure=>simp[intOf] <;> omega
theorem Zjn(A B:Option Addr)(n c m d:Nat)(a b:Nat)(w:World)(ha:Lim w A n c (digits a))(hb:Lim w B m d (digits b))(hn:n<=100000)(hb0:0<b) :
    Calls Tryz.prog 98 #[.slice A n c,.slice B m d] w (Zqa w a b):=by
 rcases Qy a b with h|h;exact Zx5 A B n c m d a b w ha hb hn h
 ·rcases Qy m 2 with h2|h2
  ·have h1:0<(digits b).length:=length_digits_pos.2 hb0
   rw[hb.len]at h1;exact Zzk A B n c m d a b w ha hb hn h (by omega)
  exact Zw1 A B n c m d a b w ha hb hn h h2
theorem rGcd_ok(na nb:Bool)(A B:Option Addr)(n c m d:Nat)(za zb:Int)(w:World)(ha:Wd w na A n c za)(hb:Wd w nb B m d zb) :
    Calls Tryz.prog 59 #[.agg #[.bool na,.slice A n c],.agg #[.bool nb,.slice B m d]] w (ResW w (Qj za.natAbs zb.natAbs:Nat)):=by
 have a5:=ha.lim;have a4:=hb.lim;have hn:=ha.2.1;have hm:=hb.2.1;have U:∀ X Y Z:Obj,Below w.heap.size w (((w.alloc X).alloc Y).alloc Z):=λX Y Z=>(((Qc w.heap.size w).alloc (Qa _) _).alloc (by simp) _).alloc (by simp;omega) _;have U:=Za U;have a1:Hid ((okW na (digits za.natAbs) && okW nb (digits zb.natAbs))=true):=by unfold Hid;rw[ha.ok,hb.ok];rfl
 clear ha hb;generalize za.natAbs=va at *;generalize zb.natAbs=vb at *;obtain⟨G,hG⟩:=Gz (Qj va vb);rw[hG];replace hG:=Za hG;go_enter Tryz.func59,Tryz.ntmps59;go_wp2_with fail;refine(Zjo (((a5.alloc _).alloc _).alloc _) (((a4.alloc _).alloc _).alloc _) a1.out).mono ?_;rintro e w1 ⟨rfl,I⟩;obtain⟨V,b5⟩:=Zdh I;have b8:w.heap.size+1+1<w1.heap.size:=by have:=I.size;simp at this;omega
 have a0:Below w.heap.size w w1:=(U.out _ _ _).trans (I.mono (by simp;omega));have g1:w1.cell? ⟨w.heap.size,1,none⟩=some (.slice A n c):=by simp[V,go_sem]
 have g2:w1.cell? ⟨w.heap.size+1,1,none⟩=some (.slice B m d):=by simp[V,go_sem]
 have g7:Blk w1 (w.heap.size+1+1) 39 #[.bool false,.slice none 0 0]:=by
  refine Zc I ?_;have:=Qg ((w.alloc (.cells #[.bool na,.slice A n c] 39)).alloc (.cells #[.bool nb,.slice B m d] 39)) 39 #[.bool false,.slice none 0 0];simp only[Qk]at this;exact this
 have a6:=a5.below a0;have a2:=a4.below a0;replace g7:=Za g7;clear V b5;go_wp2_with fail
 go_quiet (fail)
 have m7:Hid (Blk (w1.drewN nq) (w.heap.size+1+1) 39 #[.bool false,.slice none 0 0]):=Blk.drewN g7.out nq;have b2:Below w.heap.size w (w1.drewN nq):=Zf a0 nq;go_wp2_with fail
 go_loopw [6,7] (λxv yv wr=>GcdR w 39 G xv yv wr) (λ_ yv wr=>val (Zj5 wr yv))
 case atStart=>exact⟨va,vb,_,_,_,_,_,_,rfl,rfl,a6,a2,hn,hm,hG.out,m7.out,b2⟩
 case round =>
  obtain⟨u,v,A5,n5,c5,B5,m5,d5,rfl,rfl,a9,f,b6,b4,hg,y,C⟩:=hrel;replace hg:=Za hg;replace y:=Za y;by_cases hm0:0<m5
  ·have o:0<v:=by rw[<- f.len]at hm0;exact length_digits_pos.1 hm0
   have a8:=Za f.mem;go_wp2_with fail;refine(Zjn _ _ _ _ _ _ u v _ a9 f (by omega) o).mono ?_;rintro e w5 ⟨A6,n6,c6,B6,m6,d6,rfl,b7,T,O⟩;go_wp2_with fail
   go_roundw
   case rel=>exact⟨v,u%v,_,_,_,_,_,_,rfl,rfl,f.below O,T,b4,by have:=Z4 (Qz (Qo u o));rw[T.len,f.len]at this;omega,by rw[<- hg.out,QM u v,Nat.gcd_rec v u,QM],Zc O y.out,C.trans (O.mono C.size)⟩
   case measure=>simp only[a8.out,T.mem,Zj];exact Qo u o
  ·obtain rfl:m5=0:=by omega
   have o:v=0:=by
    rcases Qb v with h|h;exact h;have:=length_digits_pos.2 h;rw[f.len]at this;omega
   subst o;have b3:Hid (u=G):=by have:=hg.out;rw[Nat.gcd_zero_right]at this;exact this
   have g8:=y.out;have g3:=g8.cell 0;have g4:=g8.cell 1;have g5:=g8.frozen 0;have g6:=g8.frozen 1;simp at g3 g4;clear g8;go_wp2_with fail;refine(Zcb _ _ _ _ _ _ a9 (by omega)).mono ?_;rintro e w6 ⟨a7,a3,A7,n7,c7,J,rfl,b1⟩;have b0:Below w.heap.size w w6:=C.trans (a7.mono C.size);have m8:=Zc a7 y.out;have m3:=m8.cell 0;have m4:=m8.cell 1;have m5:=m8.frozen 0;have m6:=m8.frozen 1;simp at m3 m4;replace m8:=Za m8;go_wp2_with fail;have HZ:sg false (val (digits u))=(G:Int):=by rw[Zj,b3.out];rfl
   refine bodyPost_ret (v:=.tuple #[.agg #[.bool a3,.slice A7 n7 c7],.int .i64 J]) (by simp[results,Tryz.results59,go_sem,m3,m4]) rfl ?_;exact ResW.box (HZ▸b1) b0 (by omega) m8.out
