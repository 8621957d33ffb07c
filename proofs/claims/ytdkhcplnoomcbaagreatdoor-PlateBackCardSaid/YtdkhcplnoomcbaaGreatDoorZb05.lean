/- The reference of layer 1: times, minus over limbs. The -/
import Derived.BigQuiet
import Derived.Deep.QuietTactic
import Derived.Defers
import Derived.Recover
import Derived.Test.YtdkhcplnoomcbaaGreatDoorZb04
set_option maxRecDepth 100000
set_option maxHeartbeats 2000000
set_option linter.unusedSimpArgs false
set_option linter.unusedVariables false
namespace Go.Proofs.YtdkhcplnoomcbaaGreatDoor
open Go.RowKit
open Nat renaming le_trans→Qa,le_refl→Qb,gcd→Qh,div_lt_iff_lt_mul→Ql,lt_of_lt_of_le→Qn,eq_zero_or_pos→Qo,gcd_pos_of_pos_right→Qp,pow_le_pow_right→Qs,lt_of_le_of_lt→Qu,gcd_dvd_left→Qv
open And renaming intro→Qc
open Act renaming put→Qd
open Below renaming refl→Qe
open Rat renaming divInt→Qf,num_divInt_den→Qg
open IntKind renaming wrap_u64→Qi
open Int renaming eq_ofNat_of_zero_le→Qj,fdiv_eq_ediv_of_dvd→Qq,neg_ediv_of_dvd→Qt,natCast_ediv→Qw
open Blk renaming new→Qk
open _root_.Array renaming replicate→Qm
open List renaming drop_of_length_le→Qr,drop_zero→Qx
attribute [local go_sem] Zf
def RMinus(w:World)(a b:List Nat)(k borrow:Nat)(v:Value)(wr:World):Prop:=
 ∃ l,OwnL 143 wr w.heap.size v l/\l.length=k/\borrow<=1/\val l+val (b.take k)=val (a.take k)+pw k*borrow/\Below w.heap.size w wr
theorem RMinus.step{w w1 wb:World}{a b l:List Nat}{k borrow q s:Nat}{v':Value}{X:Int}{row:Option Nat}(hlen:l.length=k)(hlt:Lt32 l)(hq:q<=1)
    (hI:val l+val (b.take k)=val (a.take k)+pw k*borrow) (hB:Below w.heap.size w wb) (hown:w1.ownsRow w.heap.size 143 1 v' (k+1) (l.map limb ++ [.int .u32 X]))
    (hg:wb.grownBy w1 row) (hr:∀ j,row=some j->w.heap.size<=j) (hs:s<4294967296) (hX:X=s) (he:s+b[k]?.getD 0+borrow=a[k]?.getD 0+4294967296*q):RMinus w a b (k+1) q v' w1:=by
 refine⟨l ++ [s],OwnL.snoc hlen.symm hown hlt hX hs,by simp[hlen],hq,?_,hB.grown hg hB.size hr⟩;rw[Zeb,hlen,Z3,Z3,Zbh];have:pw k*(s+b[k]?.getD 0+borrow)=pw k*(a[k]?.getD 0+4294967296*q):=by rw[he]
 grind
theorem RMinus.stop{w wr:World}{a b:List Nat}{n borrow:Nat}{v:Value}(h:RMinus w a b n borrow v wr)(ha:a.length<=n)(hb:b.length<=n)(hab:val b<=val a) :
    ∃ A c l,v=.slice A n c/\Lim wr A n c l/\val l=val a-val b/\Below w.heap.size w wr:=by
 obtain⟨l,e,f,hq,hI,hB⟩:=h;obtain⟨A,c,hv,hL⟩:=e.lim;rw[f]at hv hL;refine⟨A,c,l,hv,hL,?_,hB⟩;rw[Z8 ha,Z8 hb]at hI;have:=hL.lt_pw;exact Il
theorem Zl3(A B:Option Addr)(n c m d:Nat)(a b:List Nat)(w:World)(ha:Lim w A n c a)(hb:Lim w B m d b)(hmn:m<=n)(O:val b<=val a)(hn9:n<=1000000000) :
    Calls Tryz.prog 165 #[.slice A n c,.slice B m d] w (OutL w λl=>l=digits (val a-val b)):=by
 obtain⟨i0,hi,C,E,I⟩:=info_parts Zdc;have b2:=ha.2.1;have b4:=hb.2.1;have a1:=ha.2.2.1;have a2:=hb.2.2.1;unfold maxLen at a1 a2;have a4:=Zb ha.len;have a0:=Zb hb.len;have O:=Zb O;go_in
 go_wp2
 go_loopw [5,6,7] (λov cv iv wr=>∃ k borrow:Nat,k<=n/\cv=.int .i64 borrow/\iv=.int .i64 k/\RMinus w a b k borrow ov wr) (λ_ _ iv _=>n-(intOf iv).toNat)
 case atStart=>exact⟨0,0,Nat.zero_le _,rfl,rfl,[],OwnL.nil _ _ _,rfl,by omega,by simp[val],Qe _ _⟩
 case round =>
  obtain⟨k,borrow,hk,rfl,rfl,hP⟩:=hrel;by_cases h1:k<n
  ·obtain⟨l,f,J,b0,hI,hB⟩:=hP
   have HLen:=Zb J;have HI:=Zb hI;clear J hI;have b3:=ha.lt.get k;have b1:=hb.lt.get k;obtain⟨ba,oa,rfl,a9⟩:=(ha.below hB).at_ h1;by_cases h2:k<m
   ·obtain⟨bb,ob,rfl,a8⟩:=(hb.below hB).at_ h2
    by_cases h3:a[k]?.getD 0<borrow+b[k]?.getD 0
    ·go_wp2_with (at_builtin;refine Zp _ rfl (.tmp 37) (.tmp 40) 28 rfl w.heap.size 143 i0 _ 1 4 Tryz.underlying28 hi C E I rfl Gk _ k (l.map limb) rfl (by have:=HLen.out;subst this;exact f.1.alloc _) _ _ 1 1 _ rfl (Zbo _ _ _) (by simp[Value.oneCell']) (by simp only[maxLen];omega) Gk Ge ?_;intro v1 w1 h o u)
     go_roundw
     case rel=>exact⟨k+1,1,by omega,by go_num,by go_num,RMinus.step (s:=a[k]?.getD 0+4294967296-borrow-b[k]?.getD 0) HLen.out f.2 Gk HI.out (hB.alloc hB.size _) h o f.row_ge Gk Gk Gk⟩
     case measure=>simp[intOf];omega
    go_wp2_with (at_builtin;refine Zp _ rfl (.tmp 37) (.tmp 40) 28 rfl w.heap.size 143 i0 _ 1 4 Tryz.underlying28 hi C E I rfl Gk _ k (l.map limb) rfl (by have:=HLen.out;subst this;exact f.1.alloc _) _ _ 1 1 _ rfl (Zbo _ _ _) (by simp[Value.oneCell']) (by simp only[maxLen];omega) Gk Ge ?_;intro v1 w1 h o u)
    go_roundw
    case rel=>exact⟨k+1,0,by omega,by go_num,by go_num,RMinus.step (s:=a[k]?.getD 0-borrow-b[k]?.getD 0) HLen.out f.2 Gk HI.out (hB.alloc hB.size _) h o f.row_ge Gk Gk Gk⟩
    case measure=>simp[intOf];omega
   have Y:=Zb (getD_none (l:=b) (i:=k) (by rw[a0.out];omega));by_cases h3:a[k]?.getD 0<borrow
   ·go_wp2_with (at_builtin;refine Zp _ rfl (.tmp 37) (.tmp 40) 28 rfl w.heap.size 143 i0 _ 1 4 Tryz.underlying28 hi C E I rfl Gk _ k (l.map limb) rfl (by have:=HLen.out;subst this;exact f.1.alloc _) _ _ 1 1 _ rfl (Zbo _ _ _) (by simp[Value.oneCell']) (by simp only[maxLen];omega) Gk Ge ?_;intro v1 w1 h o u)
    go_roundw
    case rel=>exact⟨k+1,1,by omega,by go_num,by go_num,RMinus.step (s:=a[k]?.getD 0+4294967296-borrow) HLen.out f.2 Gk HI.out (hB.alloc hB.size _) h o f.row_ge Gk Gk (by rw[Y.out];omega)⟩
    case measure=>simp[intOf];omega
   go_wp2_with (at_builtin;refine Zp _ rfl (.tmp 37) (.tmp 40) 28 rfl w.heap.size 143 i0 _ 1 4 Tryz.underlying28 hi C E I rfl Gk _ k (l.map limb) rfl (by have:=HLen.out;subst this;exact f.1.alloc _) _ _ 1 1 _ rfl (Zbo _ _ _) (by simp[Value.oneCell']) (by simp only[maxLen];omega) Gk Ge ?_;intro v1 w1 h o u)
   go_roundw
   case rel=>exact⟨k+1,0,by omega,by go_num,by go_num,RMinus.step (s:=a[k]?.getD 0-borrow) HLen.out f.2 Gk HI.out (hB.alloc hB.size _) h o f.row_ge Gk Gk (by rw[Y.out];omega)⟩
   case measure=>simp[intOf];omega
  obtain rfl:k=n:=Gk;obtain⟨A2,c2,l2,rfl,a6,U,hB⟩:=hP.stop (by rw[a4.out];omega) (by rw[a0.out];omega) O.out;have U:=Zb U;clear hP;go_wp2_with (go_at_call 120;refine(Zdx _ _ _ _ _ a6 hn9).mono ?_;rintro e w3 ⟨A3,n3,c3,l3,rfl,a3,a5,a7⟩);go_ret;exact⟨_,_,_,_,rfl,a3,by rw[a5,U.out],Gs hB a7⟩
theorem Zb1{neg:Bool}{A:Option Addr}{n c:Nat}{l:List Nat}{w:World}(h:Lim w A n c l)(hk:okW neg l=true) :
    Calls Tryz.prog 70 #[.agg #[.bool neg,.slice A n c]] w λe w'=>e=.returned (.int .i64 0)/\Below w.heap.size w w':=
 (Zkt neg A n c l w h).mono λ_ _ ⟨he,hb⟩=>⟨by rw[he,hk];rfl,hb⟩
theorem Zkb{neg:Bool}{A:Option Addr}{n c:Nat}{l:List Nat}{w:World}(h:Lim w A n c l)(hk:okW neg l=false) :
    Calls Tryz.prog 70 #[.agg #[.bool neg,.slice A n c]] w λe w'=>e=.returned (.int .i64 8)/\Below w.heap.size w w':=
 (Zkt neg A n c l w h).mono λ_ _ ⟨he,hb⟩=>⟨by rw[he,hk];rfl,hb⟩
theorem Zig{na nb:Bool}{A B:Option Addr}{n c m d:Nat}{la lb:List Nat}{w:World}(hLa:Lim w A n c la)(hLb:Lim w B m d lb)(hk:(okW na la && okW nb lb)=true) :
    Calls Tryz.prog 99 #[.agg #[.bool na,.slice A n c],.agg #[.bool nb,.slice B m d]] w λe w'=>e=.returned (.int .i64 0)/\Below w.heap.size w w':=by
 have u:Below w.heap.size w ((w.alloc (.cells #[.bool na,.slice A n c] 30)).alloc (.cells #[.bool nb,.slice B m d] 30)):=((Qe w.heap.size w).alloc (Qb _) _).alloc Gh _;obtain⟨ka,kb⟩:okW na la=true/\okW nb lb=true:=by simpa using hk
 go_in;go_wp2_with fail;refine(Zb1 (hLa.below u) (by first|assumption|simp_all)).mono ?_;rintro e w1 ⟨rfl,o⟩;obtain⟨f,E⟩:=Zdf o;have I:w.heap.size+1<w1.heap.size:=by have:=o.size;simp at this;omega
 have h:Below w.heap.size w w1:=u.trans (o.mono Gg);have g0:w1.cell? ⟨w.heap.size,0,none⟩=some (.bool na):=by simp[f,go_sem]
 have g1:w1.cell? ⟨w.heap.size,1,none⟩=some (.slice A n c):=by simp[f,go_sem]
 have g2:w1.cell? ⟨w.heap.size+1,0,none⟩=some (.bool nb):=by simp[f,go_sem]
 have g3:w1.cell? ⟨w.heap.size+1,1,none⟩=some (.slice B m d):=by simp[f,go_sem]
 clear f E;go_wp2_with fail;refine(Zb1 (hLb.below h) (by first|assumption|simp_all)).mono ?_;rintro e w2 ⟨rfl,C⟩;go_wp2_with fail;go_ret;exact⟨rfl,Gs h C⟩
theorem EN{G:Prop}(h:G:=by
 refine bodyPost_ret (v:=.tuple #[.agg #[.bool av,.slice A3 n3 c3],.int .i64 aH]) (by simp[results,Tryz.results152,go_sem,m3,m4]) rfl ?_;exact ResW.box (HZ▸bV) aO Gk m7):G:=h
theorem Cv{G:Prop}(h:G:=by
 have aO:Below w.heap.size w w3:=(ab.trans ((Zq aa).mono ab.size)).trans (ae.mono (Nat.le_trans ab.size (Zq aa).size))
 go_wp2
 have HZ:=HZZ l2 ck;exact EN):G:=h
theorem Zo9(na nb:Bool)(A B:Option Addr)(n c m d:Nat)(va vb:Nat)(w:World)(ha:Lim w A n c (digits va))(hb:Lim w B m d (digits vb))(hn:n<=4096)(hm:m<=4096) :
    Calls Tryz.prog 152 #[.agg #[.bool na,.slice A n c],.agg #[.bool nb,.slice B m d]] w (ResW w (sg na va+sg nb vb)):=by
 have C:Below w.heap.size w (((w.alloc (.cells #[.bool na,.slice A n c] 30)).alloc (.cells #[.bool nb,.slice B m d] 30)).alloc (.cells #[.bool false,.slice none 0 0] 30)):=(((Qe w.heap.size w).alloc (Qb _) _).alloc Gh _).alloc Gg _;have C:=Zb C;obtain⟨cv,U⟩:∃ x:Int,Zch (digits va) (digits vb)=x:=⟨_,rfl⟩;have HC:=Zb U;have dq:0<=cv ↔ vb<=va:=by rw[<- U];exact Zgp
 have dq:=Zb dq;have HLA:=Zb ha.len;have HLB:=Zb hb.len;by_cases hs:na=nb
 ·subst hs
  clear U;have HZZ:∀ l:List Nat,val l=val (digits va)+val (digits vb)->sg na (val l)=sg na va+sg na vb:=λl h=>by rw[h,Zh,Zh,Zjk]
  go_in;go_wp2_with fail;have ab:Below w.heap.size w (((w.alloc (.cells #[.bool na,.slice A n c] 30)).alloc (.cells #[.bool na,.slice B m d] 30)).alloc (.cells #[.bool false,.slice none 0 0] 30)):=(((Qe w.heap.size w).alloc (Qb _) _).alloc Gh _).alloc Gg _;have J:=ha.below ab;have u:=hb.below ab
  have g7:Blk (((w.alloc (.cells #[.bool na,.slice A n c] 30)).alloc (.cells #[.bool na,.slice B m d] 30)).alloc (.cells #[.bool false,.slice none 0 0] 30)) (w.heap.size+1+1) 30 #[.bool false,.slice none 0 0]:=by
   exact IE
  generalize hWW:(((w.alloc (.cells #[.bool na,.slice A n c] 30)).alloc (.cells #[.bool na,.slice B m d] 30)).alloc (.cells #[.bool false,.slice none 0 0] 30))=w1 at *;have g0:w1.cell? ⟨w.heap.size,0,none⟩=some (.bool na):=by rw[<- hWW];simp[go_sem]
  have g1:w1.cell? ⟨w.heap.size,1,none⟩=some (.slice A n c):=by rw[<- hWW];simp[go_sem]
  have g2:w1.cell? ⟨w.heap.size+1,0,none⟩=some (.bool na):=by rw[<- hWW];simp[go_sem]
  have g3:w1.cell? ⟨w.heap.size+1,1,none⟩=some (.slice B m d):=by rw[<- hWW];simp[go_sem]
  have a0:w.heap.size+1+1<w1.heap.size:=by rw[<- hWW];simp
  clear hWW;have g5:=g7.cell 0;have g6:=g7.cell 1;have g8:=g7.frozen 0;have g9:=g7.frozen 1;simp at g5 g6
  go_region_held3 (λw'=>w'.cell? ⟨w.heap.size,0,none⟩=some (.bool na)/\w'.cell? ⟨w.heap.size,1,none⟩=some (.slice A n c)/\w'.cell? ⟨w.heap.size+1,0,none⟩=some (.bool na)/\w'.cell? ⟨w.heap.size+1,1,none⟩=some (.slice B m d))
   (((try dsimp only);(repeat' apply Qc);all_goals (first|go_keep|(simp[*,go_sem];done))))
   (first
    | (go_at_call 164;refine(Zus _ _ _ _ _ _ _ _ _ (by exact J) (by exact u) Gk Gk).mono ?_;rintro e w2 ⟨A2,n2,c2,l2,rfl,E,ck,aa⟩;have k0:=Za aa g0;have k1:=Za aa g1;have j0:=Za aa g2;have k2:=Za aa g3;have k3:=Za aa g5;have k4:=Za aa g6;have k5:=Zl aa g5 g8;have k6:=Zl aa g6 g9;have k7:=Zc aa g7)
    | (go_at_call 90;refine(Zb8 _ _ _ _ _ _ (by exact E) (by have:=E.len;rw[ck.1]at this;omega)).mono ?_;rintro e w3 ⟨ae,av,A3,n3,c3,aH,rfl,bV⟩;have m0:=Za ae k0;have m1:=Za ae k1;have i0:=Za ae j0;have m2:=Za ae k2;have m3:=Za ae k3;have m4:=Za ae k4;have m5:=Zl ae k3 k5;have m6:=Zl ae k4 k6;have m7:=Zc ae k7))
  have aO:Below w.heap.size w w3:=(ab.trans ((Zq aa).mono ab.size)).trans (ae.mono (Qa ab.size (Zq aa).size))
  go_wp2
  have HZ:=HZZ l2 ck.2;exact EN
 have a1:(na == nb)=false:=by simpa using hs
 by_cases cJ:0<=cv
 ·have I:=dq.out.1 cJ
  have HLE:Hid (m<=n):=by have:=Zw I;rw[ha.len,hb.len]at this;exact this
  have HVL:Hid (val (digits vb)<=val (digits va)):=by rw[Zh,Zh];exact I
  have HZZ:∀ l:List Nat,l=digits (val (digits va)-val (digits vb))->sg na (val l)=sg na va+sg nb vb:=λl h=>Zez hs (by rw[h,Zh,Zh,Zh];omega)
  have HLL:Hid ((digits (val (digits va)-val (digits vb))).length<=4096):=by
   have:=Zw (show val (digits va)-val (digits vb)<=va by rw[Zh,Zh];omega);rw[HLA.out]at this;exact Qa this hn
  clear U I hs;go_in;go_wp2_with fail;refine(Zc2 _ _ _ _ _ _ _ _ _ (ha.below C.out) (hb.below C.out)).mono ?_;rintro e w1 ⟨O,o⟩;rw[HC.out]at O;subst O;obtain⟨f,Y⟩:=Zdf o;have a0:w.heap.size+1+1<w1.heap.size:=by have:=o.size;simp at this;omega
  have ab:Below w.heap.size w w1:=C.out.trans (o.mono Gg);have g0:w1.cell? ⟨w.heap.size,0,none⟩=some (.bool na):=by simp[f,go_sem]
  have g1:w1.cell? ⟨w.heap.size,1,none⟩=some (.slice A n c):=by simp[f,go_sem]
  have g2:w1.cell? ⟨w.heap.size+1,0,none⟩=some (.bool nb):=by simp[f,go_sem]
  have g3:w1.cell? ⟨w.heap.size+1,1,none⟩=some (.slice B m d):=by simp[f,go_sem]
  have g7:Blk w1 (w.heap.size+1+1) 30 #[.bool false,.slice none 0 0]:=by
   refine Zc o ?_;exact Ev
  have g5:=g7.cell 0;have g6:=g7.cell 1;have g8:=g7.frozen 0;have g9:=g7.frozen 1;simp at g5 g6;clear f Y;have J:=ha.below ab;have u:=hb.below ab;go_wp2_with fail
  go_region_held3 (λw'=>w'.cell? ⟨w.heap.size,0,none⟩=some (.bool na)/\w'.cell? ⟨w.heap.size,1,none⟩=some (.slice A n c)/\w'.cell? ⟨w.heap.size+1,0,none⟩=some (.bool nb)/\w'.cell? ⟨w.heap.size+1,1,none⟩=some (.slice B m d))
   (((try dsimp only);(repeat' apply Qc);all_goals (first|go_keep|(simp[*,go_sem];done))))
   (first
    | (go_at_call 165;refine(Zl3 _ _ _ _ _ _ _ _ _ (by exact J) (by exact u) HLE.out HVL.out Gk).mono ?_;rintro e w2 ⟨A2,n2,c2,l2,rfl,E,ck,aa⟩;have k0:=Za aa g0;have k1:=Za aa g1;have j0:=Za aa g2;have k2:=Za aa g3;have k3:=Za aa g5;have k4:=Za aa g6;have k5:=Zl aa g5 g8;have k6:=Zl aa g6 g9;have k7:=Zc aa g7)
    | (go_at_call 90;refine(Zb8 _ _ _ _ _ _ (by exact E) (by have h1:=E.len;rw[ck]at h1;have h2:=HLL.out;omega)).mono ?_;rintro e w3 ⟨ae,av,A3,n3,c3,aH,rfl,bV⟩;have m0:=Za ae k0;have m1:=Za ae k1;have i0:=Za ae j0;have m2:=Za ae k2;have m3:=Za ae k3;have m4:=Za ae k4;have m5:=Zl ae k3 k5;have m6:=Zl ae k4 k6;have m7:=Zc ae k7))
  exact Cv
 have I:va<=vb:=by
   exact IT
 have HLE:Hid (n<=m):=by have:=Zw I;rw[ha.len,hb.len]at this;exact this
 have HVL:Hid (val (digits va)<=val (digits vb)):=by rw[Zh,Zh];exact I
 have HZZ:∀ l:List Nat,l=digits (val (digits vb)-val (digits va))->sg nb (val l)=sg na va+sg nb vb:=λl h=>by rw[Int.add_comm];exact Zez (Ne.symm hs) (by rw[h,Zh,Zh,Zh];omega)
 have HLL:Hid ((digits (val (digits vb)-val (digits va))).length<=4096):=by
  have:=Zw (show val (digits vb)-val (digits va)<=vb by rw[Zh,Zh];omega);rw[HLB.out]at this;exact Qa this hm
 clear U I hs;go_in;go_wp2_with fail;refine(Zc2 _ _ _ _ _ _ _ _ _ (ha.below C.out) (hb.below C.out)).mono ?_;rintro e w1 ⟨O,o⟩;rw[HC.out]at O;subst O;obtain⟨f,Y⟩:=Zdf o;have a0:w.heap.size+1+1<w1.heap.size:=by have:=o.size;simp at this;omega
 have ab:Below w.heap.size w w1:=C.out.trans (o.mono Gg);have g0:w1.cell? ⟨w.heap.size,0,none⟩=some (.bool na):=by simp[f,go_sem]
 have g1:w1.cell? ⟨w.heap.size,1,none⟩=some (.slice A n c):=by simp[f,go_sem]
 have g2:w1.cell? ⟨w.heap.size+1,0,none⟩=some (.bool nb):=by simp[f,go_sem]
 have g3:w1.cell? ⟨w.heap.size+1,1,none⟩=some (.slice B m d):=by simp[f,go_sem]
 have g7:Blk w1 (w.heap.size+1+1) 30 #[.bool false,.slice none 0 0]:=by
  refine Zc o ?_;exact Ev
 have g5:=g7.cell 0;have g6:=g7.cell 1;have g8:=g7.frozen 0;have g9:=g7.frozen 1;simp at g5 g6;clear f Y;have J:=ha.below ab;have u:=hb.below ab;go_wp2_with fail
 go_region_held3 (λw'=>w'.cell? ⟨w.heap.size,0,none⟩=some (.bool na)/\w'.cell? ⟨w.heap.size,1,none⟩=some (.slice A n c)/\w'.cell? ⟨w.heap.size+1,0,none⟩=some (.bool nb)/\w'.cell? ⟨w.heap.size+1,1,none⟩=some (.slice B m d))
  (((try dsimp only);(repeat' apply Qc);all_goals (first|go_keep|(simp[*,go_sem];done))))
  (first
   | (go_at_call 165;refine(Zl3 _ _ _ _ _ _ _ _ _ (by exact u) (by exact J) HLE.out HVL.out Gk).mono ?_;rintro e w2 ⟨A2,n2,c2,l2,rfl,E,ck,aa⟩;have k0:=Za aa g0;have k1:=Za aa g1;have j0:=Za aa g2;have k2:=Za aa g3;have k3:=Za aa g5;have k4:=Za aa g6;have k5:=Zl aa g5 g8;have k6:=Zl aa g6 g9;have k7:=Zc aa g7)
   | (go_at_call 90;refine(Zb8 _ _ _ _ _ _ (by exact E) (by have h1:=E.len;rw[ck]at h1;have h2:=HLL.out;omega)).mono ?_;rintro e w3 ⟨ae,av,A3,n3,c3,aH,rfl,bV⟩;have m0:=Za ae k0;have m1:=Za ae k1;have i0:=Za ae j0;have m2:=Za ae k2;have m3:=Za ae k3;have m4:=Za ae k4;have m5:=Zl ae k3 k5;have m6:=Zl ae k4 k6;have m7:=Zc ae k7))
 exact Cv
def NumW(w:World)(z:Int)(e:Ending)(w':World):Prop:=
 Below w.heap.size w w'/\∃ neg A n c,e=.returned (.agg #[.bool neg,.slice A n c])/\Wd w' neg A n c z
theorem Lim.pair(w:World)(t:TypeId){v:Nat}(hv:v<18446744073709551616){X Y:Int}(hX:X=(v%4294967296:Nat))(hY:Y=(v/4294967296:Nat)) :
    Lim (w.alloc (.cells #[.int .u32 X,.int .u32 Y] t)) (some ⟨w.heap.size,0,none⟩) 2 2 [v%4294967296,v/4294967296]:=by
 subst hX hY;exact Lim.of_blk (l:=[v%4294967296,v/4294967296]) (Qk w t _) (Lt32.cons (Nat.mod_lt _ Gi) (Lt32.cons Gk Lt32.nil)) (by unfold maxLen;simp)
theorem Lim.pair2(w:World)(o:Obj)(t:TypeId){v:Nat}(hv:v<18446744073709551616){X Y:Int}(hX:X=(v%4294967296:Nat))(hY:Y=(v/4294967296:Nat)) :
    Lim ((w.alloc o).alloc (.cells #[.int .u32 X,.int .u32 Y] t)) (some ⟨w.heap.size+1,0,none⟩) 2 2 [v%4294967296,v/4294967296]:=by
 have:=Lim.pair (w.alloc o) t hv hX hY;rw[World.size_alloc]at this;exact this
theorem Zg5{z:Int}(h:z.natAbs<=9223372036854775808):z.natAbs<pw 4096:=
 Qn (Qu h (show 9223372036854775808<pw 2 by decide)) (Zbm Gk)
theorem ResP.small{w:World}{z:Int}{neg:Bool}{A:Option Addr}{n c:Nat}{code:Int}(h:ResP w z neg A n c code)(hs:z.natAbs<pw 4096):Wd w neg A n c z:=by
 rcases h with ⟨_,_,h⟩|⟨h,_⟩;exact h;omega
theorem Wd.alloc{w:World}{neg:Bool}{A:Option Addr}{n c:Nat}{z:Int}(h:Wd w neg A n c z)(o:Obj):Wd (w.alloc o) neg A n c z:=⟨h.1,h.2.1,h.2.2.alloc o⟩
theorem NumW.box{w w3:World}{z:Int}{neg:Bool}{A:Option Addr}{n c:Nat}{g:Nat}{t:TypeId}{b0:Bool}{A0:Option Addr}{n0 c0:Nat}(hP:Wd w3 neg A n c z)(hB:Below w.heap.size w w3)(hg:w.heap.size<=g)(hb:Blk w3 g t #[.bool b0,.slice A0 n0 c0]) :
    NumW w z (.returned (.agg #[.bool neg,.slice A n c])) ((w3.setCell ⟨g,0,none⟩ (.bool neg)).setCell ⟨g,1,none⟩ (.slice A n c)):=by
 have e:Blk (w3.setCell ⟨g,0,none⟩ (.bool neg)) g t #[.bool neg,.slice A0 n0 c0]:=hb.set_ 0 (.bool neg);exact⟨(hB.setCell (p:=⟨g,0,none⟩) hg _).setCell (p:=⟨g,1,none⟩) hg _,_,_,_,_,rfl,hP.1,hP.2.1,(hP.2.2.set_box hb (NoLimb.box _ _ _ _) _ _).set_box e (NoLimb.box _ _ _ _) _ _⟩
theorem NumW.alloc{w w':World}{z:Int}{e:Ending}(h:NumW w z e w')(o:Obj):NumW w z e (w'.alloc o):=by
 obtain⟨hb,neg,A,n,c,he,hw⟩:=h;exact⟨hb.alloc hb.size _,neg,A,n,c,he,hw.alloc o⟩
theorem EX{G:Prop}(h:G:=by
 have ab:Below w.heap.size w w1:=(ar.alloc ar.size _).trans (ai.mono Gg);have m7:=Zc ai (Blk.alloc (Blk.new w 30 #[.bool false,.slice none 0 0]) _);have m3:=m7.cell 0;have m4:=m7.cell 1;have m5:=m7.frozen 0;have m6:=m7.frozen 1;simp at m3 m4;have dv:=m7.lt;have HM:=Zb m7;clear m7 hz bG;go_wp2_with fail;refine bodyPost_ret (v:=.agg #[.bool aN,.slice A1 n1 c1]) (by simp[results,Tryz.results95,go_sem,m3,m4,dv]) rfl ?_;exact(NumW.box ec ab (Nat.le_refl _) HM.out).alloc _):G:=h
theorem Zph(v:Nat)(w:World)(hv:v<9223372036854775808) :
    Calls Tryz.prog 95 #[.int .i64 v] w (NumW w (v)):=by
 have h:decide ((v:Int)<0)=false:=Gh
 go_in;go_wp2_with fail;have ar:Below w.heap.size w (w.alloc (.cells #[.bool false,.slice none 0 0] 30)):=(Qe w.heap.size w).alloc (Qb _) _
 refine(Zcd _ _ _ _ [v%4294967296,v/4294967296] _ (by
  refine Lim.pair2 w _ _ Gk ?_ ?_ <;> first|rfl|omega|(simp only[Qi];omega))).mono ?_
 rintro e w1 ⟨ai,aN,A1,n1,c1,f,rfl,bG⟩;have hz:sg false (val [v%4294967296,v/4294967296])=v:=by simp[sg,val];omega
 rw[hz]at bG;have ec:Wd w1 aN A1 n1 c1 (v):=bG.small (Zg5 Gk);exact EX
theorem Zu2(v:Nat)(w:World)(hv0:0<v)(hv:v<=9223372036854775808) :
    Calls Tryz.prog 95 #[.int .i64 (-(v:Int))] w (NumW w (-(v:Int))):=by
 have h:decide (-(v:Int)<0)=true:=by simp;omega
 go_in;go_wp2_with fail;have ar:Below w.heap.size w (w.alloc (.cells #[.bool false,.slice none 0 0] 30)):=(Qe w.heap.size w).alloc (Qb _) _
 refine(Zcd _ _ _ _ [v%4294967296,v/4294967296] _ (by
  refine Lim.pair2 w _ _ Gk ?_ ?_ <;> first|rfl|omega|(simp only[Qi];omega))).mono ?_
 rintro e w1 ⟨ai,aN,A1,n1,c1,f,rfl,bG⟩;have hz:sg true (val [v%4294967296,v/4294967296])=-(v:Int):=by simp[sg,val];omega
 rw[hz]at bG;have ec:Wd w1 aN A1 n1 c1 (-(v:Int)):=bG.small (Zg5 Gk);exact EX
theorem EY{G:Prop}(h:G:=by
 have ab:Below w.heap.size w w1:=(ar.alloc ar.size _).trans (ai.mono Gg);have m7:=Zc ai (Blk.alloc (Blk.new w 30 #[.bool false,.slice none 0 0]) _);have m3:=m7.cell 0;have m4:=m7.cell 1;have m5:=m7.frozen 0;have m6:=m7.frozen 1;simp at m3 m4;have dv:=m7.lt;have HM:=Zb m7;clear m7 hz bG;go_wp2_with fail;refine bodyPost_ret (v:=.agg #[.bool aN,.slice A1 n1 c1]) (by simp[results,Tryz.results63,go_sem,m3,m4,dv]) rfl ?_;exact(NumW.box ec ab (Nat.le_refl _) HM.out).alloc _):G:=h
theorem Zmo(v:Nat)(w:World)(hv:v<9223372036854775808) :
    Calls Tryz.prog 63 #[.int .i64 v] w (NumW w (v)):=by
 have h:decide ((v:Int)<0)=false:=Gh
 go_in;go_wp2_with fail;have ar:Below w.heap.size w (w.alloc (.cells #[.bool false,.slice none 0 0] 30)):=(Qe w.heap.size w).alloc (Qb _) _
 refine(Zb8 _ _ _ _ [v%4294967296,v/4294967296] _ (by
  refine Lim.pair2 w _ _ Gk ?_ ?_ <;> first|rfl|omega|(simp only[Qi];omega)) Gk).mono ?_
 rintro e w1 ⟨ai,aN,A1,n1,c1,f,rfl,bG⟩;have hz:sg false (val [v%4294967296,v/4294967296])=v:=by simp[sg,val];omega
 rw[hz]at bG;have ec:Wd w1 aN A1 n1 c1 (v):=bG.small (Zg5 Gk);exact EY
theorem Zt3(v:Nat)(w:World)(hv0:0<v)(hv:v<=9223372036854775808) :
    Calls Tryz.prog 63 #[.int .i64 (-(v:Int))] w (NumW w (-(v:Int))):=by
 have h:decide (-(v:Int)<0)=true:=by simp;omega
 go_in;go_wp2_with fail;have ar:Below w.heap.size w (w.alloc (.cells #[.bool false,.slice none 0 0] 30)):=(Qe w.heap.size w).alloc (Qb _) _
 refine(Zb8 _ _ _ _ [v%4294967296,v/4294967296] _ (by
  refine Lim.pair2 w _ _ Gk ?_ ?_ <;> first|rfl|omega|(simp only[Qi];omega)) Gk).mono ?_
 rintro e w1 ⟨ai,aN,A1,n1,c1,f,rfl,bG⟩;have hz:sg true (val [v%4294967296,v/4294967296])=-(v:Int):=by simp[sg,val];omega
 rw[hz]at bG;have ec:Wd w1 aN A1 n1 c1 (-(v:Int)):=bG.small (Zg5 Gk);exact EY
theorem Zcn(z:Int)(w:World)(h1:-9223372036854775808<=z)(h2:z<=9223372036854775807):Calls Tryz.prog 95 #[.int .i64 z] w (NumW w z):=by
 rcases Int.le_total 0 z with h|h
 ·obtain⟨v,rfl⟩:=Qj h
  exact Zph v w Gk
 rcases Qj (show 0 <= -z by omega)with ⟨v,hv⟩;obtain rfl:z=-(v:Int):=Gk;rcases Qo v with rfl|h0;exact Zph 0 w Gk;exact Zu2 v w h0 Gk
theorem Ze7(z:Int)(w:World)(h1:-9223372036854775808<=z)(h2:z<=9223372036854775807):Calls Tryz.prog 63 #[.int .i64 z] w (NumW w z):=by
 rcases Int.le_total 0 z with h|h
 ·obtain⟨v,rfl⟩:=Qj h
  exact Zmo v w Gk
 rcases Qj (show 0 <= -z by omega)with ⟨v,hv⟩;obtain rfl:z=-(v:Int):=Gk;rcases Qo v with rfl|h0;exact Zmo 0 w Gk;exact Zt3 v w h0 Gk
theorem Zdo(neg:Bool)(A:Option Addr)(n c:Nat)(w:World) :
    Calls Tryz.prog 74 #[.agg #[.bool neg,.slice A n c],.int .i64 0] w λe w'=>e=.returned (.agg #[.bool neg,.slice A n c])/\Below w.heap.size w w':=by
 go_in;go_wp2_with fail;refine bodyPost_ret (v:=.agg #[.bool neg,.slice A n c]) (by simp[results,Tryz.results74,go_sem]) rfl ?_;exact⟨rfl,by go_grown⟩
theorem Zk0(neg:Bool)(A:Option Addr)(n c:Nat)(w:World)(hn:n<=1000000000)(b:Bool)(hb:((n:Int) == 0)=b) :
    Calls Tryz.prog 79 #[.agg #[.bool neg,.slice A n c]] w λe w'=>e=.returned (.bool b)/\Below w.heap.size w w':=by
 go_in;go_wp2_with fail;go_ret;exact⟨rfl,by go_grown⟩
theorem one_ok(w:World):Calls Tryz.prog 81 #[] w (NumW w 1):=by
 have f:∀ X:Obj,Below w.heap.size w (w.alloc X):=λX=>(Qe w.heap.size w).alloc (Qb _) _;have f:=Zb f;go_in;go_wp2_with fail;refine(Zcn 1 _ Gk Gk).mono ?_;rintro e w1 ⟨h,o,A1,n1,c1,rfl,C⟩;have u:Below w.heap.size w w1:=(f.out _).trans (h.mono Gh);have m8:=Zc h (Qk w 30 #[.bool false,.slice none 0 0]);have m3:=m8.cell 0;have m4:=m8.cell 1;have m5:=m8.frozen 0;have m6:=m8.frozen 1;simp at m3 m4;replace m8:=Zb m8;go_wp2_with fail;refine bodyPost_ret (v:=.agg #[.bool o,.slice A1 n1 c1]) (by simp[results,Tryz.results81,go_sem,m3,m4]) rfl ?_;exact NumW.box C u (Qb _) m8.out
theorem Zvc(na nb:Bool)(A B:Option Addr)(n c m d:Nat)(za zb:Int)(w:World)(ha:Wd w na A n c za)(hb:Wd w nb B m d zb)(b:Bool)(he:decide (za=zb)=b) :
    Calls Tryz.prog 80 #[.agg #[.bool na,.slice A n c],.agg #[.bool nb,.slice B m d]] w λe w'=>e=.returned (.bool b)/\Below w.heap.size w w':=by
 have u:((Zfq za zb) == 0)=b:=by
  rw[<- he];unfold Zfq;by_cases h1:za<zb
  ·rw[Gx h1];have:za≠zb:=Gk
   simp[this]
  rw[Gw h1];by_cases h2:zb<za
  ·rw[Gx h2];have:za≠zb:=Gk
   simp[this]
  rw[Gw h2];have:za=zb:=Gk;simp[this]
 have HA:=Zb ha;have HB:=Zb hb;clear ha hb he;have h:∀ X Y:Obj,Below w.heap.size w ((w.alloc X).alloc Y):=λX Y=>((Qe w.heap.size w).alloc (Qb _) _).alloc Gh _;have h:=Zb h;obtain⟨cz,f⟩:=Gz (Zfq za zb);rw[f]at u
 have HC:Hid (∀ W:World,Wd W na A n c za->Wd W nb B m d zb->Calls Tryz.prog 57 #[.agg #[.bool na,.slice A n c],.agg #[.bool nb,.slice B m d]] W λe w'=>e=.returned (.tuple #[.int .i64 cz,.int .i64 0])/\Below W.heap.size W w'):=λW h1 h2=>by
  have:=Zwr na nb A B n c m d za zb W h1 h2;rw[f]at this;exact this
 clear f;go_in;go_wp2_with fail;refine(HC.out _ ((HA.out.alloc _).alloc _) ((HB.out.alloc _).alloc _)).mono ?_;rintro e w1 ⟨rfl,o⟩;go_wp2_with fail;go_ret;exact⟨rfl,(h.out _ _).trans (o.mono Gg)⟩
def Low(num den:Int):Prop:=0<den/\Qh num.natAbs den.natAbs=1
theorem Zfd{a b:Nat}{p:Nat}(ha:a<p)(hb:b<p):Qh a b<p:=by
 rcases Qo a with rfl|h;rw[Nat.gcd_zero_left];exact hb;exact Qu (Nat.le_of_dvd h (Qv a b)) ha
theorem Zqm(na:Bool)(A B:Option Addr)(n c m d:Nat)(za zb:Int)(w:World)(ha:Wd w na A n c za)(hb:Wd w false B m d zb)(hp:0<zb)(b:Bool)(hg:decide ((Nat.gcd za.natAbs zb.natAbs:Int)=1)=b) :
    Calls Tryz.prog 56 #[.agg #[.bool na,.slice A n c,.bool false,.slice B m d]] w λe w'=>e=.returned (.int .i64 (if b then 0 else 8))/\Below w.heap.size w w':=by
 have b0:0<m:=by rw[<- hb.lim.len];exact length_digits_pos.2 Gk
 have a4:((m:Int) == 0)=false:=by simp;omega
 have hm:=hb.2.1;have a6:=Zfd ha.small hb.small;obtain⟨G,hG⟩:=Gz (Qh za.natAbs zb.natAbs);rw[hG]at hg a6;have HA:=Zb ha;have HB:=Zb hb
 have HGc:Hid (∀ W:World,Wd W na A n c za->Wd W false B m d zb->Calls Tryz.prog 78 #[.agg #[.bool na,.slice A n c],.agg #[.bool false,.slice B m d]] W (ResW W (G:Int))):=λW h1 h2=>by
  have:=Zny na false A B n c m d za zb W h1 h2;rw[hG]at this;exact this
 clear ha hb hG;have E:∀ X:Obj,Below w.heap.size w (w.alloc X):=λX=>(Qe w.heap.size w).alloc (Qb _) _;have E:=Zb E;go_in;go_wp2_with fail;refine(HGc.out _ (HA.out.alloc _) (HB.out.alloc _)).mono ?_;rintro e w1 ⟨I,ng,Ag,kg,cg,code,rfl,hR⟩;rcases hR with ⟨-,rfl,U⟩|⟨a0,-⟩
 case inr=>exact absurd a0 Gk
 obtain⟨J,a7⟩:=Zdf I;have a9:w.heap.size<w1.heap.size:=by have:=I.size;simp at this;omega
 have O:Below w.heap.size w w1:=(E.out _).trans (I.mono Gh);have g2:w1.cell? ⟨w.heap.size,2,none⟩=some (.bool false):=by simp[J,go_sem]
 have g3:w1.cell? ⟨w.heap.size,3,none⟩=some (.slice B m d):=by simp[J,go_sem]
 have C:Below w1.heap.size w1 (w1.alloc (.cells #[.bool ng,.slice Ag kg cg] 30)):=(Qe _ _).alloc (Qb _) _;have bg:=Zb (Qk w1 30 #[.bool ng,.slice Ag kg cg]);have a2:=Za C g2;have a3:=Za C g3;have a1:=Zb (U.alloc (.cells #[.bool ng,.slice Ag kg cg] 30));have u:=Zb (Gs O C);clear J a7 g2 g3 U;go_wp2_with fail;generalize w1.alloc _=w2 at *;have p0:=bg.out.cell 0;have p1:=bg.out.cell 1;simp at p0 p1
 go_region_held3 (λw'=>w'.cell? ⟨w.heap.size,2,none⟩=some (.bool false)/\w'.cell? ⟨w.heap.size,3,none⟩=some (.slice B m d)/\w'.cell? ⟨w1.heap.size,0,none⟩=some (.bool ng)/\w'.cell? ⟨w1.heap.size,1,none⟩=some (.slice Ag kg cg))
  (((try dsimp only);(repeat' apply Qc);all_goals (first|go_keep|(simp[*,go_sem];done))))
  (first
   | (go_at_call 79;refine(Zk0 _ _ _ _ _ Gk _ a4).mono ?_;rintro e w3 ⟨rfl,a8⟩;have f:=Zq a8;have k2:=Za f a2;have k3:=Za f a3;have k0:=Za f p0;have k1:=Za f p1)
   | (go_at_call 81;refine(one_ok _).mono ?_;rintro e w4 ⟨h,n4,A4,m4,c4,rfl,a5⟩;have j2:=Za h k2;have j3:=Za h k3;have j0:=Za h k0;have j1:=Za h k1)
   | (go_at_call 80;refine(Zvc _ _ _ _ _ _ _ _ _ _ _ ((a1.out.below f).below h) a5 b hg).mono ?_;rintro e w5 ⟨rfl,o⟩;have i2:=Za o j2;have i3:=Za o j3;have i0:=Za o j0;have i1:=Za o j1))
 have Y:Hid (Below w.heap.size w w5):=((Gs u.out f).trans (h.mono (Qa u.out.size f.size))).trans (o.mono (Qa u.out.size (Qa f.size h.size)));cases b
 ·go_wp2_with fail
  go_ret;exact⟨rfl,Y.out⟩
 go_wp2_with fail;go_ret;exact⟨rfl,Y.out⟩
def Zga(a b:Int):Int:=if b<0 then -(Qh a.natAbs b.natAbs:Nat)else (Qh a.natAbs b.natAbs:Nat)
theorem Znu{a b:Int}(h:b≠0):Zga a b≠0:=by
 have:0<Qh a.natAbs b.natAbs:=Qp _ Gk;unfold Zga;split <;> omega
theorem Zir(a b:Int):((Qh a.natAbs b.natAbs:Nat):Int) ∣ a:=by
 rw[<- Int.dvd_natAbs];exact Int.ofNat_dvd.2 (Qv _ _)
theorem Zl6(a b:Int):((Qh a.natAbs b.natAbs:Nat):Int) ∣ b:=by
 rw[<- Int.dvd_natAbs];exact Int.ofNat_dvd.2 (Nat.gcd_dvd_right _ _)
theorem Zua(a b:Int):Zga a b ∣ a:=by
 unfold Zga;split;exact Int.neg_dvd.2 (Zir a b);exact Zir a b
theorem Zub(a b:Int):Zga a b ∣ b:=by
 unfold Zga;split;exact Int.neg_dvd.2 (Zl6 a b);exact Zl6 a b
theorem Zqe(a b:Int):Int.gcd b a=Qh a.natAbs b.natAbs:=by unfold Int.gcd;exact Nat.gcd_comm _ _
theorem Zj9{a b:Int}(h:b≠0):Int.fdiv a (Zga a b)=(Qf a b).num:=by
 rw[Qq (Zua a b),Rat.num_divInt,Zqe];unfold Zga;obtain⟨k,hk⟩:=Zir a b
 have hg:((Qh a.natAbs b.natAbs:Nat):Int)≠0:=by
  have:0<Qh a.natAbs b.natAbs:=Qp _ Gk;omega
 split
 ·rename_i hb
  rw[Int.ediv_neg,Int.sign_eq_neg_one_of_neg hb,show (-1:Int)*a=-a by omega,Qt (Zir a b)]
 rw[Int.sign_eq_one_of_pos Gk,Int.one_mul]
theorem Zj2{a b:Int}(h:b≠0):Int.fdiv b (Zga a b)=((Qf a b).den:Nat):=by
 rw[Qq (Zub a b),Rat.den_divInt,Zqe,Gw h];unfold Zga
 split
 ·rename_i hb
  rw[Int.ediv_neg,<- Qt (Zl6 a b),show -b=((b.natAbs:Nat):Int) by omega,Qw]
 rw[Qw,show ((b.natAbs:Nat):Int)=b by omega]
theorem Zsg(r:Rat):Low r.num r.den:=⟨by have:=r.den_pos;omega,by simpa using r.reduced⟩
theorem rat_low{a b:Int}(h:Low a b):(Qf a b).num=a/\((Qf a b).den:Int)=b:=by
 have h0:b≠0:=by have:=h.1;omega
 have hG:Zga a b=1:=by unfold Zga;rw[Gw (by have:=h.1;omega),h.2];rfl
 rw[<- Zj9 h0,<- Zj2 h0,hG];simp
def Fr(w:World)(na:Bool)(A:Option Addr)(n c:Nat)(nb:Bool)(B:Option Addr)(m d:Nat)(r:Rat):Prop:=Wd w na A n c r.num/\Wd w nb B m d (r.den:Nat)
theorem Fr.below{w w':World}{na:Bool}{A:Option Addr}{n c:Nat}{nb:Bool}{B:Option Addr}{m d:Nat}{r:Rat}(h:Fr w na A n c nb B m d r)(hb:Below w.heap.size w w'):Fr w' na A n c nb B m d r:=⟨h.1.below hb,h.2.below hb⟩
theorem Fr.neg{w:World}{na:Bool}{A:Option Addr}{n c:Nat}{nb:Bool}{B:Option Addr}{m d:Nat}{r:Rat}(h:Fr w na A n c nb B m d r):nb=false:=by
 have:=h.2.1;rw[this];simp
def Ze9(w:World)(r:Rat)(e:Ending)(w':World):Prop:=
 Below w.heap.size w w'/\∃ na A n c nb B m d,e=.returned (.agg #[.bool na,.slice A n c,.bool nb,.slice B m d])/\Fr w' na A n c nb B m d r
def Zgs(w:World)(r:Rat)(e:Ending)(w':World):Prop:=
 Below w.heap.size w w'/\∃ na A n c nb B m d,e=.returned (.tuple #[.agg #[.bool na,.slice A n c,.bool nb,.slice B m d],.int .i64 0])/\Fr w' na A n c nb B m d r
def StepN(w W:World)(g:Nat):Prop:=
 (∀ na A n c z,Wd w na A n c z->Wd W na A n c z)/\(∀ g' t' cs',g'≠g->Blk w g' t' cs'->Blk W g' t' cs')/\W.heap.size=w.heap.size
theorem NoLimb.box4(b:Bool)(A:Option Addr)(n c:Nat)(b':Bool)(A':Option Addr)(n' c':Nat):NoLimb #[.bool b,.slice A n c,.bool b',.slice A' n' c']:=λi x=>by
 rcases i with _|_|_|_|i <;> simp
theorem Zbt{t:TypeId}{B:Nat}{w0 w:World}{g:Nat}{b0:Bool}{A0:Option Addr}{n0 c0:Nat}(neg:Bool)(A:Option Addr)(n c:Nat)(hB:Below B w0 w)(hs:B<=g)(hb:Blk w g t #[.bool b0,.slice A0 n0 c0]) :
    ∃ W,(w.setCell ⟨g,0,none⟩ (.bool neg)).setCell ⟨g,1,none⟩ (.slice A n c)=W/\Below B w0 W/\Blk W g t #[.bool neg,.slice A n c]/\StepN w W g:=by
 have e:Blk (w.setCell ⟨g,0,none⟩ (.bool neg)) g t #[.bool neg,.slice A0 n0 c0]:=hb.set_ 0 (.bool neg);have f:Blk ((w.setCell ⟨g,0,none⟩ (.bool neg)).setCell ⟨g,1,none⟩ (.slice A n c)) g t #[.bool neg,.slice A n c]:=e.set_ 1 (.slice A n c);refine⟨_,rfl,(hB.setCell (p:=⟨g,0,none⟩) hs _).setCell (p:=⟨g,1,none⟩) hs _,f,λna A' n' c' z hW=>⟨hW.1,hW.2.1,(hW.2.2.set_box hb (NoLimb.box _ _ _ _) _ _).set_box e (NoLimb.box _ _ _ _) _ _⟩,λg' t' cs' hg h=>(h.far hg _).far hg _,by simp⟩
theorem Zm{t:TypeId}{B:Nat}{w0 w:World}{g:Nat}{a0:Bool}{A0:Option Addr}{n0 c0:Nat}{b0:Bool}{B0:Option Addr}{m0 d0:Nat}(na:Bool)(A:Option Addr)(n c:Nat)(nb:Bool)(B':Option Addr)(m d:Nat)(hB:Below B w0 w)(hs:B<=g)(hb:Blk w g t #[.bool a0,.slice A0 n0 c0,.bool b0,.slice B0 m0 d0]) :
    ∃ W,(((w.setCell ⟨g,0,none⟩ (.bool na)).setCell ⟨g,1,none⟩ (.slice A n c)).setCell ⟨g,2,none⟩ (.bool nb)).setCell ⟨g,3,none⟩ (.slice B' m d)=W/\Below B w0 W/\Blk W g t #[.bool na,.slice A n c,.bool nb,.slice B' m d]/\StepN w W g:=by
 have o:Blk (w.setCell ⟨g,0,none⟩ (.bool na)) g t #[.bool na,.slice A0 n0 c0,.bool b0,.slice B0 m0 d0]:=hb.set_ 0 (.bool na);have e:Blk ((w.setCell ⟨g,0,none⟩ (.bool na)).setCell ⟨g,1,none⟩ (.slice A n c)) g t #[.bool na,.slice A n c,.bool b0,.slice B0 m0 d0]:=o.set_ 1 (.slice A n c);have f:Blk (((w.setCell ⟨g,0,none⟩ (.bool na)).setCell ⟨g,1,none⟩ (.slice A n c)).setCell ⟨g,2,none⟩ (.bool nb)) g t #[.bool na,.slice A n c,.bool nb,.slice B0 m0 d0]:=e.set_ 2 (.bool nb);have u:Blk ((((w.setCell ⟨g,0,none⟩ (.bool na)).setCell ⟨g,1,none⟩ (.slice A n c)).setCell ⟨g,2,none⟩ (.bool nb)).setCell ⟨g,3,none⟩ (.slice B' m d)) g t #[.bool na,.slice A n c,.bool nb,.slice B' m d]:=f.set_ 3 (.slice B' m d);have hl:=NoLimb.box4;refine⟨_,rfl,(((hB.setCell (p:=⟨g,0,none⟩) hs _).setCell (p:=⟨g,1,none⟩) hs _).setCell (p:=⟨g,2,none⟩) hs _).setCell (p:=⟨g,3,none⟩) hs _,u,λna A' n' c' z hW=>⟨hW.1,hW.2.1,?_⟩,λg' t' cs' hg h=>(((h.far hg _).far hg _).far hg _).far hg _,by simp⟩;exact(((hW.2.2.set_box hb (hl _ _ _ _ _ _ _ _) _ _).set_box o (hl _ _ _ _ _ _ _ _) _ _).set_box e (hl _ _ _ _ _ _ _ _) _ _).set_box f (hl _ _ _ _ _ _ _ _) _ _
theorem Blk.two{w:World}{g:Nat}{t:TypeId}{x y:Value}(h:Blk w g t #[x,y]):w.cell? ⟨g,0,none⟩=some x/\w.cell? ⟨g,1,none⟩=some y/\w.frozen? ⟨g,0,none⟩=false/\w.frozen? ⟨g,1,none⟩=false:=
 ⟨h.cell 0,h.cell 1,h.frozen 0,h.frozen 1⟩
theorem Blk.four{w:World}{g:Nat}{t:TypeId}{x y z v:Value}(h:Blk w g t #[x,y,z,v]):w.cell? ⟨g,0,none⟩=some x/\w.cell? ⟨g,1,none⟩=some y/\w.cell? ⟨g,2,none⟩=some z/\w.cell? ⟨g,3,none⟩=some v/\w.frozen? ⟨g,0,none⟩=false/\w.frozen? ⟨g,1,none⟩=false/\w.frozen? ⟨g,2,none⟩=false/\w.frozen? ⟨g,3,none⟩=false:=
 ⟨h.cell 0,h.cell 1,h.cell 2,h.cell 3,h.frozen 0,h.frozen 1,h.frozen 2,h.frozen 3⟩
theorem Zap{B:Nat}{w0 w:World}(t:TypeId)(cs:Array Value)(hB:Below B w0 w)(hs:B<=w.heap.size) :
    ∃ W,w.alloc (.cells cs t)=W/\Below B w0 W/\Blk W w.heap.size t cs/\(∀ na A n c z,Wd w na A n c z->Wd W na A n c z)/\(∀ g' t' cs',Blk w g' t' cs'->Blk W g' t' cs')/\W.heap.size=w.heap.size+1:=
 ⟨_,rfl,hB.alloc hs _,Qk _ _ _,λ_ _ _ _ _ h=>h.alloc _,λ_ _ _ h=>h.alloc _,by simp⟩
theorem Zcs(w:World)(t0:TypeId)(c0:Array Value)(t1:TypeId)(c1:Array Value) :
    ∃ W,(w.alloc (.cells c0 t0)).alloc (.cells c1 t1)=W/\Below w.heap.size w W/\(Blk W w.heap.size t0 c0/\Blk W (w.heap.size+1) t1 c1)/\W.heap.size=w.heap.size+1+1:=by
 refine⟨_,rfl,((Qe w.heap.size w).alloc (Qb _) _).alloc Gh _,⟨(Qk _ _ _).alloc _,?_⟩,by simp⟩;have:=Qk (w.alloc (.cells c0 t0)) t1 c1;exact Es
theorem Zda(w:World)(t0:TypeId)(c0:Array Value)(t1:TypeId)(c1:Array Value)(t2:TypeId)(c2:Array Value) :
    ∃ W,((w.alloc (.cells c0 t0)).alloc (.cells c1 t1)).alloc (.cells c2 t2)=W/\Below w.heap.size w W/\(Blk W w.heap.size t0 c0/\Blk W (w.heap.size+1) t1 c1/\Blk W (w.heap.size+1+1) t2 c2)/\W.heap.size=w.heap.size+1+1+1:=by
 obtain⟨W,hW,h1,h2,h3⟩:=Zcs w t0 c0 t1 c1;refine⟨_,rfl,?_,⟨?_,?_,?_⟩,by rw[hW];simp[h3]⟩ <;> rw[hW];exact h1.alloc Gk _;exact h2.1.alloc _;exact h2.2.alloc _;rw[<- h3];exact Qk _ _ _
theorem Zfj(w:World)(t0:TypeId)(c0:Array Value)(t1:TypeId)(c1:Array Value)(t2:TypeId)(c2:Array Value)(t3:TypeId)(c3:Array Value) :
    ∃ W,(((w.alloc (.cells c0 t0)).alloc (.cells c1 t1)).alloc (.cells c2 t2)).alloc (.cells c3 t3)=W/\Below w.heap.size w W/\(Blk W w.heap.size t0 c0/\Blk W (w.heap.size+1) t1 c1/\Blk W (w.heap.size+1+1) t2 c2/\Blk W (w.heap.size+1+1+1) t3 c3)/\W.heap.size=w.heap.size+1+1+1+1:=by
 obtain⟨W,hW,h1,h2,h3⟩:=Zda w t0 c0 t1 c1 t2 c2;refine⟨_,rfl,?_,⟨?_,?_,?_,?_⟩,by rw[hW];simp[h3]⟩ <;> rw[hW];exact h1.alloc Gk _;exact h2.1.alloc _;exact h2.2.1.alloc _;exact h2.2.2.alloc _;rw[<- h3];exact Qk _ _ _
theorem Zis{t:TypeId}{B:Nat}{w0 w:World}{g:Nat}{x0:Int}(x:Int)(hB:Below B w0 w)(hs:B<=g)(hb:Blk w g t #[.int .i64 x0]) :
    ∃ W,w.setCell ⟨g,0,none⟩ (.int .i64 x)=W/\Below B w0 W/\Blk W g t #[.int .i64 x]/\StepN w W g:=by
 have e:Blk (w.setCell ⟨g,0,none⟩ (.int .i64 x)) g t #[.int .i64 x]:=hb.set_ 0 (.int .i64 x);have hl:NoLimb #[.int .i64 x0]:=λi x=>by rcases i with _|i <;> simp
 exact⟨_,rfl,hB.setCell (p:=⟨g,0,none⟩) hs _,e,λna A' n' c' z hW=>⟨hW.1,hW.2.1,hW.2.2.set_box hb hl _ _⟩,λg' t' cs' hg h=>h.far hg _,by simp⟩
theorem Ep{G:Prop}(h:G:=by
 have q2:=Zc az hq.out.1;have q5:=Zc az hq.out.2;clear az c1 c3 bS bU dg dh aR er eu dw bz hq;obtain⟨W8,fo,eC,q8,kW,kB,s9⟩:=Zap 30 #[.bool ny,.slice Ay ky cy] cP Gk;replace q2:=kB _ _ _ q2;replace q5:=kB _ _ _ q5;have fS:=Zb (kW _ _ _ _ _ eU.out);have fU:=Zb (kW _ _ _ _ _ eo);clear kW kB eU eo cP;obtain⟨W9,ee,dy,-,kW,kB,jL⟩:=Zap 30 #[.bool ns,.slice As ks cs] eC Gk;replace q2:=kB _ _ _ q2;replace q5:=kB _ _ _ q5;replace q8:=kB _ _ _ q8;have iA:=Zb (kW _ _ _ _ _ fS.out);have iB:=Zb (kW _ _ _ _ _ fU.out);clear kW kB fS fU eC;have c5:=Zb q5.two;have c8:=Zb q8.two;have c2:=Zb q2.four;have hq:=Zb q2;rw[<- ee,<- fo]at c5 c8 c2;rw[<- fo]at ee;clear fo q2 q5 q8;obtain⟨js,jt,-,-⟩:=c5.out;obtain⟨ju,jw,-,-⟩:=c8.out;obtain⟨jo,jp,jq,jr,jx,jy,jz,jA⟩:=c2.out;replace ee:=Zb ee;replace dy:=Zb dy;go_wp2_with fail;rw[ee.out];obtain⟨W,hW,hB,aF,kW,-⟩:=Zm nx Ax kx cx ny Ay ky cy dy.out Gk hq.out;rw[hW];obtain⟨r0,r1,r2,r3,-⟩:=aF.four;refine bodyPost_ret (v:=.agg #[.bool nx,.slice Ax kx cx,.bool ny,.slice Ay ky cy]) (by simp[results,Tryz.results101,go_sem,r0,r1,r2,r3]) rfl ?_;exact⟨hB,_,_,_,_,_,_,_,_,rfl,kW _ _ _ _ _ iA.out,kW _ _ _ _ _ iB.out⟩):G:=h
theorem Cw{G:Prop}(h:G:=by
 have:=Blk.new ((w.alloc (.cells #[.bool na,.slice A n c] 30)).alloc (.cells #[.bool false,.slice B m d] 30)) 32 #[.bool false,.slice none 0 0,.bool false,.slice none 0 0];exact Es):G:=h
theorem Cx{G:Prop}(h:G:=by
 have:=(Blk.new (w.alloc (.cells #[.bool na,.slice A n c] 30)) 30 #[.bool false,.slice B m d]).alloc (.cells #[.bool false,.slice none 0 0,.bool false,.slice none 0 0] 32);exact Es):G:=h
theorem Zhu(na:Bool)(A B:Option Addr)(n c m d:Nat)(za zb:Int)(w:World)(ha:Wd w na A n c za)(hb:Wd w false B m d zb)(h0:0<zb) :
    Calls Tryz.prog 101 #[.agg #[.bool na,.slice A n c],.agg #[.bool false,.slice B m d]] w (Ze9 w (Qf za zb)):=by
 have c6:=Zfd ha.small hb.small;have hx:=Zb (Zj9 (a:=za) (b:=zb) Gk);have hy:=Zb (Zj2 (a:=za) (b:=zb) Gk);have E:=Zb (Znu (a:=za) (b:=zb) Gk);have b6:Zga za zb=(Qh za.natAbs zb.natAbs:Nat):=by unfold Zga;rw[Gw Gk]
 rw[b6]at hx hy E;have HA:=Zb ha;have HB:=Zb hb;obtain⟨G,hG⟩:=Gz (Qh za.natAbs zb.natAbs);rw[hG]at hx hy E c6
 have HGc:Hid (∀ W:World,Wd W na A n c za->Wd W false B m d zb->Calls Tryz.prog 78 #[.agg #[.bool na,.slice A n c],.agg #[.bool false,.slice B m d]] W (ResW W (G:Int))):=λW h1 h2=>by
  have:=Zny na false A B n c m d za zb W h1 h2;rw[hG]at this;exact this
 generalize Qf za zb=R at *;clear ha hb hG b6;have a0:∀ X Y Z:Obj,Below w.heap.size w (((w.alloc X).alloc Y).alloc Z):=λX Y Z=>(((Qe w.heap.size w).alloc (Qb _) _).alloc Gh _).alloc Gg _;have a0:=Zb a0;go_in;go_wp2_with fail;have q0:Blk (((w.alloc (.cells #[.bool na,.slice A n c] 30)).alloc (.cells #[.bool false,.slice B m d] 30)).alloc (.cells #[.bool false,.slice none 0 0,.bool false,.slice none 0 0] 32)) w.heap.size 30 #[.bool na,.slice A n c]:=((Qk _ _ _).alloc _).alloc _
 have q1:Blk (((w.alloc (.cells #[.bool na,.slice A n c] 30)).alloc (.cells #[.bool false,.slice B m d] 30)).alloc (.cells #[.bool false,.slice none 0 0,.bool false,.slice none 0 0] 32)) (w.heap.size+1) 30 #[.bool false,.slice B m d]:=by
  exact Cx
 have q2:Blk (((w.alloc (.cells #[.bool na,.slice A n c] 30)).alloc (.cells #[.bool false,.slice B m d] 30)).alloc (.cells #[.bool false,.slice none 0 0,.bool false,.slice none 0 0] 32)) (w.heap.size+1+1) 32 #[.bool false,.slice none 0 0,.bool false,.slice none 0 0]:=by
  exact Cw
 refine(HGc.out _ (((HA.out.alloc _).alloc _).alloc _) (((HB.out.alloc _).alloc _).alloc _)).mono ?_;rintro e w1 ⟨o,ng,Ag,kg,cg,code,rfl,hR⟩;rcases hR with ⟨-,rfl,a4⟩|⟨b4,-⟩
 case inr=>exact absurd b4 Gk
 have u:Below w.heap.size w w1:=(a0.out _ _ _).trans (o.mono Gg);have a9:=Zb (HA.out.below u);have b2:=Zb (HB.out.below u);have s1:w.heap.size+1+1<w1.heap.size:=by have:=o.size;simp at this;omega
 replace q0:=Zc o q0;replace q1:=Zc o q1;replace q2:=Zc o q2;obtain⟨U,a1,-,-⟩:=q0.two;obtain⟨bS,bU,-,-⟩:=q1.two;have hq:=Zb (Qc q0 (Qc q1 q2));clear q0 q1 q2 o;go_wp2_with fail;refine(Zdo ng Ag kg cg _).mono ?_;rintro e w2 ⟨rfl,f⟩;have b1:Below w.heap.size w w2:=Gs u f;have b7:=Zb (a9.out.below f);have b3:=Zb (b2.out.below f);have a7:=Zb (a4.below f);have s2:w.heap.size+1+1<w2.heap.size:=by have:=f.size;omega
 have q0:=Zc f hq.out.1;have q1:=Zc f hq.out.2.1;have q2:=Zc f hq.out.2.2;clear U a1 bS bU u f a4 a9 b2 hq;obtain⟨W3,C,c4,q3,kW,kB,s3⟩:=Zap 30 #[.bool ng,.slice Ag kg cg] b1 Gk;replace q0:=kB _ _ _ q0;replace q1:=kB _ _ _ q1;replace q2:=kB _ _ _ q2;have a3:=Zb (kW _ _ _ _ _ b7.out);have a5:=Zb (kW _ _ _ _ _ b3.out);have O:=Zb (kW _ _ _ _ _ a7.out);have s4:w.heap.size+1+1<w2.heap.size:=s2;clear kW kB b7 b3 a7 b1;have c0:=Zb q0.two;have c1:=Zb q1.two;have c3:=Zb q3.two;rw[<- C]at c0 c1 c3;obtain⟨U,a1,-,-⟩:=c0.out;obtain⟨bS,bU,-,-⟩:=c1.out;obtain⟨dg,dh,-,-⟩:=c3.out;have hq:=Zb (Qc q0 (Qc q1 (Qc q2 q3)));clear q0 q1 q2 q3;replace C:=Zb C;go_wp2_with fail;rw[C.out];refine(Zfc na ng A Ag n c kg cg za G _ a3.out O.out E.out).mono ?_;rintro e w4 ⟨h,nx,Ax,kx,cx,nr,Ar,kr,cr,rfl,I,-⟩;rw[hx.out]at I;have a8:Below w.heap.size w w4:=c4.trans (h.mono Gk);have b8:=Zb (a5.out.below h);have b9:=Zb (O.out.below h);have s5:w2.heap.size+1<=w4.heap.size:=by have:=h.size;omega
 have q1:=Zc h hq.out.2.1;have q2:=Zc h hq.out.2.2.1;have q3:=Zc h hq.out.2.2.2;clear h c0 c1 c3 U a1 bS bU dg dh C a3 a5 O c4 hq;obtain⟨W5,J,b0,q5,kW,kB,s6⟩:=Zap 30 #[.bool nx,.slice Ax kx cx] a8 Gk;replace q1:=kB _ _ _ q1;replace q2:=kB _ _ _ q2;replace q3:=kB _ _ _ q3;have a6:=Zb (kW _ _ _ _ _ b8.out);have a2:=Zb (kW _ _ _ _ _ b9.out);have b5:=Zb (kW _ _ _ _ _ I);clear kW kB b8 b9 I a8;obtain⟨W6,aR,bz,-,kW,kB,s7⟩:=Zap 30 #[.bool nr,.slice Ar kr cr] b0 Gk;replace q1:=kB _ _ _ q1;replace q2:=kB _ _ _ q2;replace q3:=kB _ _ _ q3;replace q5:=kB _ _ _ q5;have er:=Zb (kW _ _ _ _ _ a6.out);have eu:=Zb (kW _ _ _ _ _ a2.out);have dw:=Zb (kW _ _ _ _ _ b5.out);clear kW kB a6 a2 b5 b0;have c1:=Zb q1.two;have c3:=Zb q3.two;rw[<- aR,<- J]at c1 c3;obtain⟨bS,bU,-,-⟩:=c1.out;obtain⟨dg,dh,-,-⟩:=c3.out;have hq:=Zb (Qc q2 q5);clear q1 q2 q3 q5;rw[<- J]at aR;replace aR:=Zb aR;clear J;go_wp2_with fail;rw[aR.out];refine(Zfc false ng B Ag m d kg cg zb G _ er.out eu.out E.out).mono ?_;rintro e w7 ⟨az,ny,Ay,ky,cy,ns,As,ks,cs,rfl,eo,-⟩;rw[hy.out]at eo;have cP:Below w.heap.size w w7:=bz.trans (az.mono Gk);have eU:=Zb (dw.out.below az);have s8:w4.heap.size+2<=w7.heap.size:=by have:=az.size;omega
 exact Ep
theorem Zex(w:World) :
    Calls Tryz.prog 55 #[.int .i64 0] w λe w'=>e=.returned (.tuple #[])/\w'=w:=by
 go_in;go_wp2_with fail
 go_end0
 exact⟨rfl,rfl⟩
theorem Zf4(p:Addr)(w:World) :
    CallsD Tryz.prog 54 #[.pointer (some p)] .returning w λe u' w'=>e=.returned (.tuple #[])/\u'=.returning/\w'=w:=by
 refine callsD_of_wpS Tryz.func54 rfl λc₀ cs hu=>?_;apply wpS_seq;apply wpS_region;simp[wpOpsS,go_sem,recoverD,hu,Tryz.ntmps54,Exit.thenS];rw[show (#[Value.pointer (some p)]++(Qm 14 undef).setIfInBounds 4 Value.nilIface)=#[Value.pointer (some p),undef,undef,undef,undef,Value.nilIface,undef,undef,undef,undef,undef,undef,undef,undef,undef] from rfl];refine wpS_of_wp ?_;go_wp2_with fail;cases c₀
 simp_all [bodyPostS,results,Tryz.results54]
theorem Zgy(na:Bool)(A B:Option Addr)(n c m d:Nat)(za zb:Int)(w:World)(ha:Wd w na A n c za)(hb:Wd w false B m d zb)(h0:0<zb) :
    Calls Tryz.prog 94 #[.agg #[.bool na,.slice A n c],.agg #[.bool false,.slice B m d]] w (Zgs w (Qf za zb)):=by
 have d3:0<m:=by rw[<- hb.lim.len];exact length_digits_pos.2 Gk
 have b6:((m:Int) == 0)=false:=by simp;omega
 have hm:=hb.2.1;have HA:=Zb ha;have HB:=Zb hb;clear ha hb;obtain⟨W0,Y,E,hq,s0⟩:=Zfj w 30 #[.bool na,.slice A n c] 30 #[.bool false,.slice B m d] 32 #[.bool false,.slice none 0 0,.bool false,.slice none 0 0] 33 #[.int .i64 0];replace Y:=Zb Y;replace hq:=Zb hq
 go_enter_defers Tryz.func94,Tryz.ntmps94
 go_wp2_with fail;rw[Y.out];have a1:=Zb (HA.out.below E);have a7:=Zb (HB.out.below E);clear HA HB Y;refine(Zm8 na A n c _ W0 a1.out.lim).mono ?_;rw[a1.out.ok];rintro e w1 ⟨rfl,o⟩;have a2:Below w.heap.size w w1:=Gs E o;have s1:W0.heap.size<=w1.heap.size:=o.size;have b0:=Zb (a1.out.below o);have a0:=Zb (a7.out.below o);obtain⟨q0,q1,q2,q3⟩:=hq.out;replace q0:=Zc o q0;replace q1:=Zc o q1;replace q2:=Zc o q2;replace q3:=Zc o q3;obtain⟨J,O,-,-⟩:=q0.two;obtain⟨C,I,-,-⟩:=q1.two;clear hq o a1 a7 E;have hq:=Zb (Qc q0 (Qc q1 (Qc q2 q3)));clear q0 q1 q2 q3;simp only[Zf8,if_true];go_wp2_with fail;refine(Zex w1).mono ?_;rintro e w1 ⟨rfl,rfl⟩;go_wp2_with fail;refine(Zm8 false B m d _ w1 a0.out.lim).mono ?_;rw[a0.out.ok];rintro e w2 ⟨rfl,h⟩;have a4:Below w.heap.size w w2:=Gs a2 h;have s2:w1.heap.size<=w2.heap.size:=h.size;have b5:=Zb (b0.out.below h);have b3:=Zb (a0.out.below h);obtain⟨q0,q1,q2,q3⟩:=hq.out;replace q0:=Zc h q0;replace q1:=Zc h q1;replace q2:=Zc h q2;replace q3:=Zc h q3;clear J O C I;obtain⟨J,O,-,-⟩:=q0.two;obtain⟨C,I,-,-⟩:=q1.two;clear hq h b0 a0 a2;have hq:=Zb (Qc q0 (Qc q1 (Qc q2 q3)));clear q0 q1 q2 q3;simp only[Zf8,if_true];go_wp2_with fail;refine(Zex w2).mono ?_;rintro e w2 ⟨rfl,rfl⟩;go_wp2_with fail;refine(Zk0 false B m d w2 Gk false b6).mono ?_
 rintro e w3 ⟨rfl,u⟩;have a3:Below w.heap.size w w3:=Gs a4 u;have s3:w2.heap.size<=w3.heap.size:=u.size;have a6:=Zb (b5.out.below u);have a8:=Zb (b3.out.below u);obtain⟨q0,q1,q2,q3⟩:=hq.out;replace q0:=Zc u q0;replace q1:=Zc u q1;replace q2:=Zc u q2;replace q3:=Zc u q3;clear J O C I;obtain⟨J,O,-,-⟩:=q0.two;obtain⟨C,I,-,-⟩:=q1.two;clear hq u b5 b3 a4;have hq:=Zb (Qc q2 q3);clear q0 q1 q2 q3;go_wp2_with fail;refine(Zhu na A B n c m d za zb w3 a6.out a8.out h0).mono ?_;rintro e w4 ⟨U,nx,Ax,kx,cx,ny,Ay,ky,cy,rfl,hF⟩;have c4:Below w.heap.size w w4:=Gs a3 U;have s4:w3.heap.size<=w4.heap.size:=U.size;have q2:=Zc U hq.out.1;have q3:=Zc U hq.out.2;clear hq U a6 a8 a3 J O C I;have c2:=Zb q2.four;have c3:=q3.cell 0;have f3:=q3.frozen 0;simp at c3;obtain⟨c9,c7,c1,c6,c5,b7,b8,c0⟩:=c2.out;have hq:=Zb (Qc q2 q3);clear q2 q3;go_wp2_with fail;obtain⟨W5,a9,b1,q2,kW,kB,s5⟩:=Zm nx Ax kx cx ny Ay ky cy c4 Gk hq.out.1;have q3:=kB _ _ _ Gk hq.out.2;have b4:=Zb (kW _ _ _ _ _ hF.1);have b2:=Zb (kW _ _ _ _ _ hF.2);rw[a9];clear kW kB c9 c7 c1 c6 c3 f3 c5 b7 b8 c0 hq hF;obtain⟨W6,a5,c8,q3,kW,kB,s6⟩:=Zis 0 b1 Gk q3;replace q2:=kB _ _ _ Gk q2;have d0:=Zb (kW _ _ _ _ _ b4.out);have b9:=Zb (kW _ _ _ _ _ b2.out);rw[a5];obtain⟨r0,r1,r2,r3,-⟩:=q2.four;have r4:=q3.cell 0;simp at r4
 clear kW kB b1 b4 b2 a9 a5;refine leaves_cons (f:=54) (args:=#[.pointer (some ⟨w.heap.size+1+1+1,0,none⟩)]) Gh (by simp[go_sem]) ?_;refine(Zf4 _ _).mono ?_;rintro e u' w'' ⟨rfl,rfl,rfl⟩;refine⟨.tuple #[.agg #[.bool nx,.slice Ax kx cx,.bool ny,.slice Ay ky cy],.int .i64 0],by simp[results,Tryz.results94,go_sem,r0,r1,r2,r3,r4],?_⟩;exact⟨c8,_,_,_,_,_,_,_,_,rfl,d0.out,b9.out⟩
theorem IB{G:Prop}(h:G:=by
 refine Zc ai ((Blk.alloc (Blk.alloc ?_ _) _));have:=Blk.new (w.alloc (.cells #[.bool na,.slice A n c] 30)) 30 #[.bool nb,.slice B m d];exact Es):G:=h
theorem Zhx(na nb:Bool)(A B:Option Addr)(n c m d:Nat)(za zb:Int)(w:World)(ha:Wd w na A n c za)(hb:Wd w nb B m d zb) :
    Calls Tryz.prog 75 #[.agg #[.bool na,.slice A n c],.agg #[.bool nb,.slice B m d]] w (ResW w (za*zb)):=by
 have aU:=ha.lim;have aD:=hb.lim;have hn:=ha.2.1;have hm:=hb.2.1;have E:∀ X Y Z V:Obj,Below w.heap.size w ((((w.alloc X).alloc Y).alloc Z).alloc V):=λX Y Z V=>((((Qe w.heap.size w).alloc (Qb _) _).alloc Gh _).alloc Gg _).alloc Gg _
 have hW:∀ X Y Z t,WL ((((w.alloc X).alloc Y).alloc Z).alloc (.cells #[.bool na,.slice A n c,.bool nb,.slice B m d] t)) (some ⟨w.heap.size+1+1+1,0,none⟩) 2 2 [⟨na,A,n,c,digits za.natAbs⟩,⟨nb,B,m,d,digits zb.natAbs⟩]:=λX Y Z t=>by
  exact IC
 have hW:=Zb hW;have E:=Zb E;have C:Hid (okW na (digits za.natAbs)=true/\okW nb (digits zb.natAbs)=true):=⟨ha.ok,hb.ok⟩;have a3:=Zb ha.sgEq;have a4:=Zb hb.sgEq;clear ha hb;go_in;go_wp2_with fail;refine(Zdn (hW.out _ _ _ _) (by have:=C.out;simp[WE.ok,this])).mono ?_;rintro e w1 ⟨rfl,ai⟩;obtain⟨u,a0⟩:=Zdf ai;have a7:w.heap.size+1+1+1<w1.heap.size:=by have:=ai.size;simp at this;omega
 have o:Below w.heap.size w w1:=(E.out _ _ _ _).trans (ai.mono Gg);have g0:w1.cell? ⟨w.heap.size,0,none⟩=some (.bool na):=by simp[u,go_sem]
 have g1:w1.cell? ⟨w.heap.size,1,none⟩=some (.slice A n c):=by simp[u,go_sem]
 have g2:w1.cell? ⟨w.heap.size+1,0,none⟩=some (.bool nb):=by simp[u,go_sem]
 have g3:w1.cell? ⟨w.heap.size+1,1,none⟩=some (.slice B m d):=by simp[u,go_sem]
 have gf:w1.frozen? ⟨w.heap.size+1,0,none⟩=false:=by simp[a0,go_sem]
 have gB:Blk w1 (w.heap.size+1) 30 #[.bool nb,.slice B m d]:=by
  exact IB
 have g7:Blk w1 (w.heap.size+1+1) 30 #[.bool false,.slice none 0 0]:=by
  refine Zc ai (Blk.alloc ?_ _);exact Ev
 have O:=aU.below o;have J:=aD.below o;have HB:=Zb gB;clear gB u a0;have g5:=g7.cell 0;have g6:=g7.cell 1;have g8:=g7.frozen 0;have g9:=g7.frozen 1;simp at g5 g6;go_wp2_with fail
 go_region_held3 (λw'=>w'.cell? ⟨w.heap.size,0,none⟩=some (.bool na)/\w'.cell? ⟨w.heap.size,1,none⟩=some (.slice A n c)/\w'.cell? ⟨w.heap.size+1,0,none⟩=some (.bool nb)/\w'.cell? ⟨w.heap.size+1,1,none⟩=some (.slice B m d))
  (((try dsimp only);(repeat' apply Qc);all_goals (first|go_keep|(simp[*,go_sem];done))))
  (first
   | (go_at_call 103;refine(Ztw _ _ _ _ _ _ _ _ _ (by exact O) (by exact J) Gk Gk).mono ?_;rintro e w2 ⟨A2,n2,c2,l2,rfl,a5,a2,f⟩;have k0:=Za f g0;have k1:=Za f g1;have j0:=Za f g2;have k2:=Za f g3;have k3:=Za f g5;have k4:=Za f g6;have k5:=Zl f g5 g8;have k6:=Zl f g6 g9;have k7:=Zc f g7)
   | (go_at_call 102;refine(Zcd _ _ _ _ _ _ (by exact a5)).mono ?_;rintro e w3 ⟨h,U,A3,n3,c3,I,rfl,a1⟩;have m0:=Za h k0;have m1:=Za h k1;have i0:=Za h j0;have m2:=Za h k2;have m3:=Za h k3;have m4:=Za h k4;have m5:=Zl h k3 k5;have m6:=Zl h k4 k6;have m7:=Zc h k7))
 have a6:Below w.heap.size w w3:=(o.trans ((Zq f).mono o.size)).trans (h.mono (Qa o.size (Zq f).size))
 go_wp2
 have HZ:sg (na != nb) (val l2)=za*zb:=by
  have h1:=a3.out;have h2:=a4.out;rw[a2.2,sg_mul,h1,h2]
 refine bodyPost_ret (v:=.tuple #[.agg #[.bool U,.slice A3 n3 c3],.int .i64 I]) (by simp[results,Tryz.results75,go_sem,m3,m4]) rfl ?_;exact ResW.box (HZ▸a1) a6 Gk m7
theorem Zvp(na nb:Bool)(A B:Option Addr)(n c m d:Nat)(za zb:Int)(w:World)(ha:Wd w na A n c za)(hb:Wd w nb B m d zb) :
    Calls Tryz.prog 98 #[.agg #[.bool na,.slice A n c],.agg #[.bool nb,.slice B m d]] w (ResW w (za-zb)):=by
 have aU:=ha.lim;have aD:=hb.lim;have hn:=ha.2.1;have hm:=hb.2.1;have C:∀ X Y Z V:Obj,Below w.heap.size w ((((w.alloc X).alloc Y).alloc Z).alloc V):=λX Y Z V=>((((Qe w.heap.size w).alloc (Qb _) _).alloc Gh _).alloc Gg _).alloc Gg _
 have hW:∀ X Y Z t,WL ((((w.alloc X).alloc Y).alloc Z).alloc (.cells #[.bool na,.slice A n c,.bool nb,.slice B m d] t)) (some ⟨w.heap.size+1+1+1,0,none⟩) 2 2 [⟨na,A,n,c,digits za.natAbs⟩,⟨nb,B,m,d,digits zb.natAbs⟩]:=λX Y Z t=>by
  exact IC
 have hW:=Zb hW;have C:=Zb C;have u:Hid (okW na (digits za.natAbs)=true/\okW nb (digits zb.natAbs)=true):=⟨ha.ok,hb.ok⟩;have a2:=Zb ha.sgEq;have a3:=Zb hb.sgEq;clear ha hb;go_in;go_wp2_with fail;refine(Zdn (hW.out _ _ _ _) (by have:=u.out;simp[WE.ok,this])).mono ?_;rintro e w1 ⟨rfl,ai⟩;obtain⟨f,a0⟩:=Zdf ai;have a5:w.heap.size+1+1+1<w1.heap.size:=by have:=ai.size;simp at this;omega
 have h:Below w.heap.size w w1:=(C.out _ _ _ _).trans (ai.mono Gg);have g0:w1.cell? ⟨w.heap.size,0,none⟩=some (.bool na):=by simp[f,go_sem]
 have g1:w1.cell? ⟨w.heap.size,1,none⟩=some (.slice A n c):=by simp[f,go_sem]
 have g2:w1.cell? ⟨w.heap.size+1,0,none⟩=some (.bool nb):=by simp[f,go_sem]
 have g3:w1.cell? ⟨w.heap.size+1,1,none⟩=some (.slice B m d):=by simp[f,go_sem]
 have gf:w1.frozen? ⟨w.heap.size+1,0,none⟩=false:=by simp[a0,go_sem]
 have gB:Blk w1 (w.heap.size+1) 30 #[.bool nb,.slice B m d]:=by
  exact IB
 have g7:Blk w1 (w.heap.size+1+1) 30 #[.bool false,.slice none 0 0]:=by
  refine Zc ai (Blk.alloc ?_ _);exact Ev
 have I:=aU.below h;have E:=aD.below h;have HB:=Zb gB;clear gB f a0;have J:w.heap.size<=(w1.setCell ⟨w.heap.size+1,0,none⟩ (.bool (!nb))).heap.size:=by simp;omega
 go_wp2_with fail;refine(Zsr _ _ _ _ _ _ _ _ _ _ _ (by exact I.set_box HB.out (NoLimb.box _ _ _ _) _ _) (by exact E.set_box HB.out (NoLimb.box _ _ _ _) _ _) hn hm).mono ?_;rintro e w2 ⟨U,O,A2,n2,c2,o,rfl,a4⟩;have a1:Below w.heap.size w w2:=(h.setCell (p:=⟨w.heap.size+1,0,none⟩) Gh _).trans (U.mono J);have m7:=Zc U (g7.far Gh _);have m3:=m7.cell 0;have m4:=m7.cell 1;have m5:=m7.frozen 0;have m6:=m7.frozen 1;simp at m3 m4;have HM:=Zb m7;clear m7;go_wp2_with fail
 have HZ:sg na za.natAbs+sg (!nb) zb.natAbs=za-zb:=by
  have h1:=a2.out;have h2:=a3.out;rw[Zh]at h1 h2;rw[Zvg,h1,h2];omega
 refine bodyPost_ret (v:=.tuple #[.agg #[.bool O,.slice A2 n2 c2],.int .i64 o]) (by simp[results,Tryz.results98,go_sem,m3,m4]) rfl ?_;exact ResW.box (HZ▸a4) a1 Gk HM.out
theorem Zbp(w:World)(t0:TypeId)(c0:Array Value) :
    ∃ W,w.alloc (.cells c0 t0)=W/\Below w.heap.size w W/\Blk W w.heap.size t0 c0/\W.heap.size=w.heap.size+1:=
 ⟨_,rfl,(Qe w.heap.size w).alloc (Qb _) _,Qk _ _ _,by simp⟩
theorem FS{G:Prop}(h:G:=by
 exact⟨au,_,_,_,_,_,_,_,_,rfl,kW _ _ _ _ _ hF.out.1,kW _ _ _ _ _ hF.out.2⟩):G:=h
theorem Zji(x y:Int)(w:World)(hx1:-9223372036854775808<=x)(hx2:x<=9223372036854775807)(h0:0<y)(hy:y<=9223372036854775807) :
    Calls Tryz.prog 65 #[.int .i64 x,.int .i64 y] w (Zgs w (Qf x y)):=by
 obtain⟨W0,h,I,hq,s0⟩:=Zbp w 32 #[.bool false,.slice none 0 0,.bool false,.slice none 0 0];replace h:=Zb h;replace hq:=Zb hq;go_in;go_wp2_with fail;rw[h.out];clear h;refine(Zcn x W0 hx1 hx2).mono ?_;rintro e w1 ⟨o,na,A,n,c,rfl,hA⟩;have C:Below w.heap.size w w1:=I.trans (o.mono Gk);have s1:W0.heap.size<=w1.heap.size:=o.size;replace hq:=Gm o hq;replace hA:=Zb hA;clear o I;go_wp2_with fail;refine(Zcn y w1 Gk hy).mono ?_;rintro e w2 ⟨f,nb,B,m,d,rfl,hB⟩;have E:Below w.heap.size w w2:=C.trans (f.mono Gk);have s2:w1.heap.size<=w2.heap.size:=f.size;replace hq:=Gm f hq;replace hA:=Zb (hA.out.below f);have hn:nb=false:=by rw[hB.1];simp;omega
 subst hn;replace hB:=Zb hB;clear f C;go_wp2_with fail;refine(Zgy na A B n c m d x y w2 hA.out hB.out h0).mono ?_;rintro e w3 ⟨u,nx,Ax,kx,cx,ny,Ay,ky,cy,rfl,hF⟩;have O:Below w.heap.size w w3:=E.trans (u.mono Gk);have s3:w2.heap.size<=w3.heap.size:=u.size;replace hq:=Gm u hq;obtain⟨a5,a3,a4,a2,a1,U,a0,Y⟩:=hq.out.four;clear u E;replace hF:=Zb hF;go_wp2_with fail;obtain⟨W5,J,au,q2,kW,-,s5⟩:=Zm nx Ax kx cx ny Ay ky cy O Gk hq.out;rw[J];obtain⟨r0,r1,r2,r3,-⟩:=q2.four;refine bodyPost_ret (v:=.tuple #[.agg #[.bool nx,.slice Ax kx cx,.bool ny,.slice Ay ky cy],.int .i64 0]) (by simp[results,Tryz.results65,go_sem,r0,r1,r2,r3]) rfl ?_;exact FS
theorem Zet(na nb na' nb':Bool)(A B A' B':Option Addr)(n c m d n' c' m' d':Nat)(a b:Rat)(w:World)(ha:Fr w na A n c nb B m d a)(hb:Fr w na' A' n' c' nb' B' m' d' b)(hs:(a.num*b.den).natAbs<pw 4096) :
    Calls Tryz.prog 58 #[.agg #[.bool na,.slice A n c,.bool nb,.slice B m d],.agg #[.bool na',.slice A' n' c',.bool nb',.slice B' m' d']] w (NumW w (a.num*b.den)):=by
 obtain⟨W0,f,h,⟨q0,q1,q2⟩,s0⟩:=Zda w 32 #[.bool na,.slice A n c,.bool nb,.slice B m d] 32 #[.bool na',.slice A' n' c',.bool nb',.slice B' m' d'] 30 #[.bool false,.slice none 0 0];have hA:=Zb (ha.1.below h);have hD:=Zb (hb.2.below h);replace hs:=Zb hs;clear ha hb;obtain⟨I,O,-⟩:=q0.four;obtain⟨-,-,C,E,-⟩:=q1.four;rw[<- f]at I O C E;replace f:=Zb f;go_in;go_wp2_with fail;rw[f.out];clear f I O C E;refine(Zhx na nb' A B' n c m' d' a.num b.den W0 hA.out hD.out).mono ?_;rintro e w1 ⟨u,np,P,k,q,code,rfl,hR⟩;rcases hR with ⟨-,rfl,hP⟩|⟨J,-⟩
 case inr=>exact absurd J (by have:=hs.out;omega)
 have U:Below w.heap.size w w1:=h.trans (u.mono Gk);have s1:W0.heap.size<=w1.heap.size:=u.size;replace q2:=Zc u q2;clear u h q0 q1;replace q2:=Zb q2;replace hP:=Zb hP;go_wp2_with fail;refine(Zdo np P k q w1).mono ?_;rintro e w2 ⟨rfl,o⟩;have a1:Below w.heap.size w w2:=U.trans (o.mono Gk);have s2:w1.heap.size<=w2.heap.size:=o.size;replace q2:=Zc o q2.out;replace hP:=hP.out.below o;obtain⟨c0,c1,f0,f1⟩:=q2.two;replace q2:=Zb q2;replace hP:=Zb hP;go_wp2_with fail;obtain⟨W5,Y,a0,q3,kW,-,s5⟩:=Zbt np P k q a1 Gk q2.out;rw[Y];obtain⟨r0,r1,-⟩:=q3.two;refine bodyPost_ret (v:=.agg #[.bool np,.slice P k q]) (by simp[results,Tryz.results58,go_sem,r0,r1]) rfl ?_;exact⟨a0,_,_,_,_,rfl,kW _ _ _ _ _ hP.out⟩
theorem OnlyNormal.imp{Q:Exit->Act->World->Prop}(e:Exit)(a:Act)(w:World)(h:OnlyNormal Q e a w):Q e a w:=by
 cases e <;> first|exact h|exact(h:False).elim
theorem Zad{P:Program}{id:Nat}{ops:Array Oper}{Q:Exit->Act->World->Prop}{a:Act}{w:World}(L:List Nat)(S:World->Prop)(hm:P.follows .mixedOrders=true)
    (hS:S w.drew) (h:S w.drew->Zu P .any ops (OnlyNormal Q) L S ops.size (Qm ops.size false) a w.drew):(Code.region id ops true).wp P Q a w:=
 Code.wp_mono OnlyNormal.imp (wp_region_any hm (Zhq _ _ _ _ (h hS)))
theorem wp_heldS{P:Program}{id:Nat}{ops:Array Oper}{Q:Exit->Act->World->Prop}{a:Act}{w w0:World}{B:Nat}{S:World->Prop}(L:List Nat)(hm:P.follows .mixedOrders=true)
    (hv:Hid (∀ wx,Below B w0 wx->S wx)) (hb:Below B w0 w.drew) (h:S w.drew->Zu P .any ops (OnlyNormal Q) L S ops.size (Qm ops.size false) a w.drew):(Code.region id ops true).wp P Q a w:=Zad L S hm (hv.out _ hb) h
theorem Ztq{l n:Nat}{P:Program}{id:Nat}{ops:Array Oper}{Q:Exit->Act->World->Prop}{a:Act}{w w0:World}{B:Nat}{S:World->Prop}(L:List Nat)(hm:P.follows .mixedOrders=true)(hnd:Ziw ops=true)
    (hv:Hid (∀ wx,Below B w0 wx->S wx)) (hb:Below B w0 w.drew) (h:S w.drew->Zu P .any ops (OnlyNormal Q) L S ops.size (Qm ops.size false) a w.drew):(Code.region id ops true).wpIn (Fence.wide.inRound l) n P Q a w:=Za6 L S hm hnd (hv.out _ hb) h
theorem ResP.code0{w:World}{z:Int}{neg:Bool}{A:Option Addr}{n c:Nat}{code:Int}(h:ResP w z neg A n c code)(hs:z.natAbs<pw 4096):code=0:=by
 rcases h with ⟨_,h,_⟩|⟨h,_⟩;exact h;omega
theorem Fr.drew{w:World}{na:Bool}{A:Option Addr}{n c:Nat}{nb:Bool}{B:Option Addr}{m d:Nat}{r:Rat}(h:Fr w na A n c nb B m d r):Fr w.drew na A n c nb B m d r:=h
def Zmw(w:World)(x y:Int)(e:Ending)(w':World):Prop:=
 Below w.heap.size w w'/\∃ na A n c nb B m d,e=.returned (.tuple #[.agg #[.bool na,.slice A n c],.agg #[.bool nb,.slice B m d]])/\Wd w' na A n c x/\Wd w' nb B m d y
theorem Mul1_ok(na nb na' nb':Bool)(A B A' B':Option Addr)(n c m d n' c' m' d':Nat)(a b:Rat)(w:World)(ha:Fr w na A n c nb B m d a)(hb:Fr w na' A' n' c' nb' B' m' d' b)
    (hs:(a.num*b.num).natAbs<pw 4096) (ht:((a.den:Int)*(b.den:Nat)).natAbs<pw 4096) :
    Calls Tryz.prog 73 #[.agg #[.bool na,.slice A n c,.bool nb,.slice B m d],.agg #[.bool na',.slice A' n' c',.bool nb',.slice B' m' d']] w (Zmw w (a.num*b.num) ((a.den:Int)*(b.den:Nat))):=by
 obtain⟨W0,J,I,⟨q0,q1,q2,q3⟩,s0⟩:=Zfj w 32 #[.bool na,.slice A n c,.bool nb,.slice B m d] 32 #[.bool na',.slice A' n' c',.bool nb',.slice B' m' d'] 30 #[.bool false,.slice none 0 0] 30 #[.bool false,.slice none 0 0];have hmx:=Gt;have hA:=Zb (ha.below I);have hD:=Zb (hb.below I);replace hs:=Zb hs;replace ht:=Zb ht;have sz:=Zb I.size;have hB:=Zb I;clear ha hb I s0;replace q0:=Zb q0;replace q1:=Zb q1;replace q2:=Zb q2;replace q3:=Zb q3;obtain⟨a0,a1,a2,a3,-⟩:=q0.out.four;obtain⟨b0,b1,b2,b3,-⟩:=q1.out.four;replace J:=Zb J;go_in;go_wp2_with fail;rw[J.out];clear J;refine Zad [17] (λW'=>W'.cell? ⟨w.heap.size,0,none⟩=some (.bool na)/\W'.cell? ⟨w.heap.size,1,none⟩=some (.slice A n c)/\W'.cell? ⟨w.heap.size,2,none⟩=some (.bool nb)/\W'.cell? ⟨w.heap.size,3,none⟩=some (.slice B m d)/\W'.cell? ⟨w.heap.size+1,0,none⟩=some (.bool na')/\W'.cell? ⟨w.heap.size+1,1,none⟩=some (.slice A' n' c')/\W'.cell? ⟨w.heap.size+1,2,none⟩=some (.bool nb')/\W'.cell? ⟨w.heap.size+1,3,none⟩=some (.slice B' m' d')) hmx ⟨a0,a1,a2,a3,b0,b1,b2,b3⟩ (λ_=>?_);refine Zin 8 [0,1,2,3,8,9,10,11] rfl Gj ⟨a0,a1,a2,a3,b0,b1,b2,b3⟩ ?_
 iterate 8 (refine tkA ?_;try simp only[Qd,Zf6,Zfl,Zfx,Gr,Gq,Gp])
 refine tk0 ?_;refine wpAnyL_o 4 λK hK=>?_;go_simp;refine(Zhx na na' A A' n c n' c' a.num b.num W0.drew hA.out.1 hD.out.1).mono ?_;rintro e w1 ⟨h,np,P,k,q,code,rfl,hR⟩;replace h:=Zq h;have hP:=Zb (hR.small hs.out);have E:=hR.code0 hs.out;subst E;clear hs hR;replace q0:=Gm h q0;replace q1:=Gm h q1;replace q2:=Gm h q2;replace q3:=Gm h q3;replace hA:=Zb (hA.out.below h);replace hD:=Zb (hD.out.below h);replace hB:=Zb (hB.out.trans (h.mono sz.out));replace sz:=Zb (Qa sz.out h.size);clear a0 a1 a2 a3 b0 b1 b2 b3;obtain⟨a0,a1,a2,a3,-⟩:=q0.out.four;obtain⟨b0,b1,b2,b3,-⟩:=q1.out.four;clear h;refine hK.out _ _ (λ_=>⟨a0,a1,a2,a3,b0,b1,b2,b3⟩) ?_;clear hK K
 try simp only[Qd,Zf6,Zfl,Zfx]
 refine Zin 2 [5,6] rfl Gj ⟨a0,a1,a2,a3,b0,b1,b2,b3⟩ ?_
 iterate 2 (refine tkA ?_;try simp only[Qd,Zf6,Zfl,Zfx,Gr,Gq,Gp])
 refine tk0 ?_;refine wpAnyL_o 7 λK hK=>?_;go_simp;refine(Zdo np P k q w1).mono ?_;rintro e w2 ⟨rfl,o⟩;replace hP:=Zb (hP.out.below o);replace q0:=Gm o q0;replace q1:=Gm o q1;replace q2:=Gm o q2;replace q3:=Gm o q3;replace hA:=Zb (hA.out.below o);replace hD:=Zb (hD.out.below o);replace hB:=Zb (hB.out.trans (o.mono sz.out));replace sz:=Zb (Qa sz.out o.size);clear a0 a1 a2 a3 b0 b1 b2 b3;obtain⟨a0,a1,a2,a3,-⟩:=q0.out.four;obtain⟨b0,b1,b2,b3,-⟩:=q1.out.four;clear o;refine hK.out _ _ (λ_=>⟨a0,a1,a2,a3,b0,b1,b2,b3⟩) ?_;clear hK K
 try simp only[Qd,Zf6,Zfl,Zfx]
 refine wpAnyL_o 12 λK hK=>?_;go_simp;refine(Zhx nb nb' B B' m d m' d' a.den b.den w2 hA.out.2 hD.out.2).mono ?_;rintro e w3 ⟨u,O,P',k',q',code,rfl,hR⟩;replace hP:=Zb (hP.out.below u);have C:=Zb (hR.small ht.out);have E:=hR.code0 ht.out;subst E;clear ht hR;replace q0:=Gm u q0;replace q1:=Gm u q1;replace q2:=Gm u q2;replace q3:=Gm u q3;replace hA:=Zb (hA.out.below u);replace hD:=Zb (hD.out.below u);replace hB:=Zb (hB.out.trans (u.mono sz.out));replace sz:=Zb (Qa sz.out u.size);clear a0 a1 a2 a3 b0 b1 b2 b3;obtain⟨a0,a1,a2,a3,-⟩:=q0.out.four;obtain⟨b0,b1,b2,b3,-⟩:=q1.out.four;clear u;refine hK.out _ _ (λ_=>⟨a0,a1,a2,a3,b0,b1,b2,b3⟩) ?_;clear hK K
 try simp only[Qd,Zf6,Zfl,Zfx]
 refine Zin 2 [13,14] rfl Gj ⟨a0,a1,a2,a3,b0,b1,b2,b3⟩ ?_
 iterate 2 (refine tkA ?_;try simp only[Qd,Zf6,Zfl,Zfx,Gr,Gq,Gp])
 refine tk0 ?_;refine wpAnyL_o 15 λK hK=>?_;go_simp;refine(Zdo O P' k' q' w3).mono ?_;rintro e w4 ⟨rfl,f⟩;replace hP:=Zb (hP.out.below f);replace C:=Zb (C.out.below f);replace q0:=Gm f q0;replace q1:=Gm f q1;replace q2:=Gm f q2;replace q3:=Gm f q3;replace hA:=Zb (hA.out.below f);replace hD:=Zb (hD.out.below f);replace hB:=Zb (hB.out.trans (f.mono sz.out));replace sz:=Zb (Qa sz.out f.size);clear a0 a1 a2 a3 b0 b1 b2 b3;obtain⟨a0,a1,a2,a3,-⟩:=q0.out.four;obtain⟨b0,b1,b2,b3,-⟩:=q1.out.four;clear f;obtain⟨x0,x1,f0,f1⟩:=q2.out.two;refine hK.out _ _ (λ_=>⟨a0,a1,a2,a3,b0,b1,b2,b3⟩) ?_;clear hK K
 try simp only[Qd,Zf6,Zfl,Zfx]
 refine wpAnyL_o 16 λK hK=>?_;go_simp;obtain⟨W5,a4,a5,U,kW,kB,s5⟩:=Zbt np P k q hB.out Gk q2.out;rw[a4];clear a4 x0 x1 f0 f1 a0 a1 a2 a3 b0 b1 b2 b3 hA hD;replace q0:=kB _ _ _ Gk q0.out;replace q1:=kB _ _ _ Gk q1.out;obtain⟨a0,a1,a2,a3,-⟩:=q0.four;obtain⟨b0,b1,b2,b3,-⟩:=q1.four;replace q3:=Zb (kB _ _ _ Gk q3.out);replace hP:=Zb (kW _ _ _ _ _ hP.out);replace C:=Zb (kW _ _ _ _ _ C.out);clear kW kB q2 hB q0 q1;obtain⟨y0,y1,g0,g1⟩:=q3.out.two;refine hK.out _ _ (λ_=>⟨a0,a1,a2,a3,b0,b1,b2,b3⟩) ?_;clear hK K
 try simp only[Qd,Zf6,Zfl,Zfx]
 refine Zr (i:=17) rfl Gj Gj (λK hK=>?_);go_simp;obtain⟨W6,Y,a7,a6,kW,kB,s6⟩:=Zbt O P' k' q' a5 Gk q3.out;rw[Y];clear Y y0 y1 g0 g1 a0 a1 a2 a3 b0 b1 b2 b3;replace U:=kB _ _ _ Gk U;replace hP:=Zb (kW _ _ _ _ _ hP.out);replace C:=Zb (kW _ _ _ _ _ C.out);clear kW kB q3 a5;refine hK.out _ _ ?_;clear hK K
 try simp only[Qd,Zf6,Zfl,Zfx]
 refine wpAnyL_fin ?_;obtain⟨r0,r1,-⟩:=U.two;obtain⟨r2,r3,-⟩:=a6.two;go_wp2_with fail;refine bodyPost_ret (v:=.tuple #[.agg #[.bool np,.slice P k q],.agg #[.bool O,.slice P' k' q']]) (by simp[results,Tryz.results73,go_sem,r0,r1,r2,r3]) rfl ?_;exact⟨a7,_,_,_,_,_,_,_,_,rfl,hP.out,C.out⟩
theorem Sub1_ok(na nb na' nb':Bool)(A B A' B':Option Addr)(n c m d n' c' m' d':Nat)(a b:Rat)(w:World)(ha:Fr w na A n c nb B m d a)(hb:Fr w na' A' n' c' nb' B' m' d' b)
    (h1:(a.num*b.den).natAbs<pw 4096) (h2:(b.num*a.den).natAbs<pw 4096) (hs:(a.num*b.den-b.num*a.den).natAbs<pw 4096) (ht:((a.den:Int)*(b.den:Nat)).natAbs<pw 4096) :
    Calls Tryz.prog 97 #[.agg #[.bool na,.slice A n c,.bool nb,.slice B m d],.agg #[.bool na',.slice A' n' c',.bool nb',.slice B' m' d']] w (Zmw w (a.num*b.den-b.num*a.den) ((a.den:Int)*(b.den:Nat))):=by
 obtain⟨W0,a4,Y,⟨q0,q1,q2,q3⟩,s0⟩:=Zfj w 32 #[.bool na,.slice A n c,.bool nb,.slice B m d] 32 #[.bool na',.slice A' n' c',.bool nb',.slice B' m' d'] 30 #[.bool false,.slice none 0 0] 30 #[.bool false,.slice none 0 0];have hmx:=Gt;have hA:=Zb (ha.below Y);have hD:=Zb (hb.below Y);replace hs:=Zb hs;replace ht:=Zb ht;replace h1:=Zb h1;replace h2:=Zb h2;have sz:=Zb Y.size;have hB:=Zb Y;clear ha hb Y s0;replace q0:=Zb q0;replace q1:=Zb q1;replace q2:=Zb q2;replace q3:=Zb q3;obtain⟨a0,a1,a2,a3,-⟩:=q0.out.four;obtain⟨b0,b1,b2,b3,-⟩:=q1.out.four;replace a4:=Zb a4;go_in;go_wp2_with fail;rw[a4.out];clear a4;refine Zad [19] (λW'=>W'.cell? ⟨w.heap.size,0,none⟩=some (.bool na)/\W'.cell? ⟨w.heap.size,1,none⟩=some (.slice A n c)/\W'.cell? ⟨w.heap.size,2,none⟩=some (.bool nb)/\W'.cell? ⟨w.heap.size,3,none⟩=some (.slice B m d)/\W'.cell? ⟨w.heap.size+1,0,none⟩=some (.bool na')/\W'.cell? ⟨w.heap.size+1,1,none⟩=some (.slice A' n' c')/\W'.cell? ⟨w.heap.size+1,2,none⟩=some (.bool nb')/\W'.cell? ⟨w.heap.size+1,3,none⟩=some (.slice B' m' d')) hmx ⟨a0,a1,a2,a3,b0,b1,b2,b3⟩ (λ_=>?_);refine Zin 8 [0,1,3,4,10,11,12,13] rfl Gj ⟨a0,a1,a2,a3,b0,b1,b2,b3⟩ ?_
 iterate 8 (refine tkA ?_;try simp only[Qd,Zf6,Zfl,Zfx,Gr,Gq,Gp])
 refine tk0 ?_;refine wpAnyL_o 2 λK hK=>?_;go_simp;refine(Zet na nb na' nb' A B A' B' n c m d n' c' m' d' a b W0.drew hA.out hD.out h1.out).mono ?_;rintro e w1 ⟨h,nu,U,k1,u,rfl,hU⟩;replace h:=Zq h;replace hU:=Zb hU;replace q0:=Gm h q0;replace q1:=Gm h q1;replace q2:=Gm h q2;replace q3:=Gm h q3;replace hA:=Zb (hA.out.below h);replace hD:=Zb (hD.out.below h);replace hB:=Zb (hB.out.trans (h.mono sz.out));replace sz:=Zb (Qa sz.out h.size);clear a0 a1 a2 a3 b0 b1 b2 b3;obtain⟨a0,a1,a2,a3,-⟩:=q0.out.four;obtain⟨b0,b1,b2,b3,-⟩:=q1.out.four;clear h;refine hK.out _ _ (λ_=>⟨a0,a1,a2,a3,b0,b1,b2,b3⟩) ?_;clear hK K
 try simp only[Qd,Zf6,Zfl,Zfx]
 refine wpAnyL_o 5 λK hK=>?_;go_simp;refine(Zet na' nb' na nb A' B' A B n' c' m' d' n c m d b a w1 hD.out hA.out h2.out).mono ?_;rintro e w2 ⟨C,nv,V,k2,v,rfl,hV⟩;replace hU:=Zb (hU.out.below C);replace hV:=Zb hV;replace q0:=Gm C q0;replace q1:=Gm C q1;replace q2:=Gm C q2;replace q3:=Gm C q3;replace hA:=Zb (hA.out.below C);replace hD:=Zb (hD.out.below C);replace hB:=Zb (hB.out.trans (C.mono sz.out));replace sz:=Zb (Qa sz.out C.size);clear a0 a1 a2 a3 b0 b1 b2 b3;obtain⟨a0,a1,a2,a3,-⟩:=q0.out.four;obtain⟨b0,b1,b2,b3,-⟩:=q1.out.four;clear C;refine hK.out _ _ (λ_=>⟨a0,a1,a2,a3,b0,b1,b2,b3⟩) ?_;clear hK K
 try simp only[Qd,Zf6,Zfl,Zfx]
 refine wpAnyL_o 6 λK hK=>?_;go_simp;refine(Zvp nu nv U V k1 u k2 v _ _ w2 hU.out hV.out).mono ?_;rintro e w3 ⟨I,np,P,k,q,code,rfl,hR⟩;have hP:=Zb (hR.small hs.out);have O:=hR.code0 hs.out;subst O;clear hs hR hU hV;replace q0:=Gm I q0;replace q1:=Gm I q1;replace q2:=Gm I q2;replace q3:=Gm I q3;replace hA:=Zb (hA.out.below I);replace hD:=Zb (hD.out.below I);replace hB:=Zb (hB.out.trans (I.mono sz.out));replace sz:=Zb (Qa sz.out I.size);clear a0 a1 a2 a3 b0 b1 b2 b3;obtain⟨a0,a1,a2,a3,-⟩:=q0.out.four;obtain⟨b0,b1,b2,b3,-⟩:=q1.out.four;clear I;refine hK.out _ _ (λ_=>⟨a0,a1,a2,a3,b0,b1,b2,b3⟩) ?_;clear hK K
 try simp only[Qd,Zf6,Zfl,Zfx]
 refine Zin 2 [7,8] rfl Gj ⟨a0,a1,a2,a3,b0,b1,b2,b3⟩ ?_
 iterate 2 (refine tkA ?_;try simp only[Qd,Zf6,Zfl,Zfx,Gr,Gq,Gp])
 refine tk0 ?_;refine wpAnyL_o 9 λK hK=>?_;go_simp;refine(Zdo np P k q w3).mono ?_;rintro e w4 ⟨rfl,E⟩;replace hP:=Zb (hP.out.below E);replace q0:=Gm E q0;replace q1:=Gm E q1;replace q2:=Gm E q2;replace q3:=Gm E q3;replace hA:=Zb (hA.out.below E);replace hD:=Zb (hD.out.below E);replace hB:=Zb (hB.out.trans (E.mono sz.out));replace sz:=Zb (Qa sz.out E.size);clear a0 a1 a2 a3 b0 b1 b2 b3;obtain⟨a0,a1,a2,a3,-⟩:=q0.out.four;obtain⟨b0,b1,b2,b3,-⟩:=q1.out.four;clear E;refine hK.out _ _ (λ_=>⟨a0,a1,a2,a3,b0,b1,b2,b3⟩) ?_;clear hK K
 try simp only[Qd,Zf6,Zfl,Zfx]
 refine wpAnyL_o 14 λK hK=>?_;go_simp;refine(Zhx nb nb' B B' m d m' d' a.den b.den w4 hA.out.2 hD.out.2).mono ?_;rintro e w5 ⟨o,a5,P',k',q',code,rfl,hR⟩;replace hP:=Zb (hP.out.below o);have J:=Zb (hR.small ht.out);have O:=hR.code0 ht.out;subst O;clear ht hR;replace q0:=Gm o q0;replace q1:=Gm o q1;replace q2:=Gm o q2;replace q3:=Gm o q3;replace hA:=Zb (hA.out.below o);replace hD:=Zb (hD.out.below o);replace hB:=Zb (hB.out.trans (o.mono sz.out));replace sz:=Zb (Qa sz.out o.size);clear a0 a1 a2 a3 b0 b1 b2 b3;obtain⟨a0,a1,a2,a3,-⟩:=q0.out.four;obtain⟨b0,b1,b2,b3,-⟩:=q1.out.four;clear o;refine hK.out _ _ (λ_=>⟨a0,a1,a2,a3,b0,b1,b2,b3⟩) ?_;clear hK K
 try simp only[Qd,Zf6,Zfl,Zfx]
 refine Zin 2 [15,16] rfl Gj ⟨a0,a1,a2,a3,b0,b1,b2,b3⟩ ?_
 iterate 2 (refine tkA ?_;try simp only[Qd,Zf6,Zfl,Zfx,Gr,Gq,Gp])
 refine tk0 ?_;refine wpAnyL_o 17 λK hK=>?_;go_simp;refine(Zdo a5 P' k' q' w5).mono ?_;rintro e w6 ⟨rfl,f⟩;replace hP:=Zb (hP.out.below f);replace J:=Zb (J.out.below f);replace q0:=Gm f q0;replace q1:=Gm f q1;replace q2:=Gm f q2;replace q3:=Gm f q3;replace hA:=Zb (hA.out.below f);replace hD:=Zb (hD.out.below f);replace hB:=Zb (hB.out.trans (f.mono sz.out));replace sz:=Zb (Qa sz.out f.size);clear a0 a1 a2 a3 b0 b1 b2 b3;obtain⟨a0,a1,a2,a3,-⟩:=q0.out.four;obtain⟨b0,b1,b2,b3,-⟩:=q1.out.four;clear f;obtain⟨x0,x1,f0,f1⟩:=q2.out.two;refine hK.out _ _ (λ_=>⟨a0,a1,a2,a3,b0,b1,b2,b3⟩) ?_;clear hK K
 try simp only[Qd,Zf6,Zfl,Zfx]
 refine wpAnyL_o 18 λK hK=>?_;go_simp;obtain⟨W5,a8,a9,a6,kW,kB,s5⟩:=Zbt np P k q hB.out Gk q2.out;rw[a8];clear a8 x0 x1 f0 f1 a0 a1 a2 a3 b0 b1 b2 b3 hA hD;replace q0:=kB _ _ _ Gk q0.out;replace q1:=kB _ _ _ Gk q1.out;obtain⟨a0,a1,a2,a3,-⟩:=q0.four;obtain⟨b0,b1,b2,b3,-⟩:=q1.four;replace q3:=Zb (kB _ _ _ Gk q3.out);replace hP:=Zb (kW _ _ _ _ _ hP.out);replace J:=Zb (kW _ _ _ _ _ J.out);clear kW kB q2 hB q0 q1;obtain⟨y0,y1,g0,g1⟩:=q3.out.two;refine hK.out _ _ (λ_=>⟨a0,a1,a2,a3,b0,b1,b2,b3⟩) ?_;clear hK K
 try simp only[Qd,Zf6,Zfl,Zfx]
 refine Zr (i:=19) rfl Gj Gj (λK hK=>?_);go_simp;obtain⟨W6,a7,b5,b4,kW,kB,s6⟩:=Zbt a5 P' k' q' a9 Gk q3.out;rw[a7];clear a7 y0 y1 g0 g1 a0 a1 a2 a3 b0 b1 b2 b3;replace a6:=kB _ _ _ Gk a6;replace hP:=Zb (kW _ _ _ _ _ hP.out);replace J:=Zb (kW _ _ _ _ _ J.out);clear kW kB q3 a9;refine hK.out _ _ ?_;clear hK K
 try simp only[Qd,Zf6,Zfl,Zfx]
 refine wpAnyL_fin ?_;obtain⟨r0,r1,-⟩:=a6.two;obtain⟨r2,r3,-⟩:=b4.two;go_wp2_with fail;refine bodyPost_ret (v:=.tuple #[.agg #[.bool np,.slice P k q],.agg #[.bool a5,.slice P' k' q']]) (by simp[results,Tryz.results97,go_sem,r0,r1,r2,r3]) rfl ?_;exact⟨b5,_,_,_,_,_,_,_,_,rfl,hP.out,J.out⟩
theorem Zdk(na nb:Bool)(A B:Option Addr)(n c m d:Nat)(r:Rat)(w:World)(h:Fr w na A n c nb B m d r) :
    Calls Tryz.prog 56 #[.agg #[.bool na,.slice A n c,.bool nb,.slice B m d]] w λe w'=>e=.returned (.int .i64 0)/\Below w.heap.size w w':=by
 have hn:=h.neg;subst hn;have hl:=Zsg r;exact Zqm na A B n c m d r.num r.den w h.1 h.2 hl.1 true (by rw[hl.2];rfl)
theorem ER{G:Prop}(h:G:=by
 clear kW kB au ew ez eI aR;refine leaves_cons (f:=54) (args:=#[.pointer (some ⟨w.heap.size+1+1+1,0,none⟩)]) Gh (by simp[go_sem]) ?_;refine(Zf4 _ _).mono ?_;rintro e u' w'' ⟨rfl,rfl,rfl⟩;refine⟨.tuple #[.agg #[.bool nx,.slice Ax kx cx,.bool ny,.slice Ay ky cy],.int .i64 0],by simp[results,Tryz.results72,go_sem,r0,r1,r2,r3,r4],?_⟩;exact⟨bz,_,_,_,_,_,_,_,_,rfl,dw.out,fT.out⟩):G:=h
theorem Cp{G:Prop}(h:G:=by
 rintro e w4 ⟨E,nx,Ax,kx,cx,ny,Ay,ky,cy,rfl,hF⟩;have a9:Below w.heap.size w w4:=Gs a5 E;have s4:w3.heap.size<=w4.heap.size:=E.size;have q2:=Zc E hq.out.1;have q3:=Zc E hq.out.2;clear hq E hU hV a5;have c2:=Zb q2.four;have c3:=q3.cell 0;have f3:=q3.frozen 0;simp at c3;obtain⟨b9,b6,b8,b5,b4,a7,a8,b7⟩:=c2.out;have hq:=Zb (Qc q2 q3);clear q2 q3;go_wp2_with fail;obtain⟨W5,eI,au,q2,kW,kB,s5⟩:=Zm nx Ax kx cx ny Ay ky cy a9 Gk hq.out.1;have q3:=kB _ _ _ Gk hq.out.2;have ew:=Zb (kW _ _ _ _ _ hF.1);have ez:=Zb (kW _ _ _ _ _ hF.2);rw[eI];clear kW kB b9 b6 b8 b5 c3 f3 b4 a7 a8 b7 hq hF;obtain⟨W6,aR,bz,q3,kW,kB,s6⟩:=Zis 0 au Gk q3;replace q2:=kB _ _ _ Gk q2;have dw:=Zb (kW _ _ _ _ _ ew.out);have fT:=Zb (kW _ _ _ _ _ ez.out);rw[aR];obtain⟨r0,r1,r2,r3,-⟩:=q2.four;have r4:=q3.cell 0;simp at r4;exact ER):G:=h
theorem Zn4(F:FuncId)(na nb na' nb':Bool)(A B A' B':Option Addr)(n c m d n' c' m' d':Nat)(a b:Rat)(X Y:Int)(w:World)(ha:Fr w na A n c nb B m d a)(hb:Fr w na' A' n' c' nb' B' m' d' b)(hY:0<Y)(hcf:∀ (x y:Value) (W:World),(callFunc F #[x,y]).run Tryz.prog W=.ok (.enter F #[x,y]) W)
    (hF:∀ W:World,Fr W na A n c nb B m d a->Fr W na' A' n' c' nb' B' m' d' b->Calls Tryz.prog F #[.agg #[.bool na,.slice A n c,.bool nb,.slice B m d],.agg #[.bool na',.slice A' n' c',.bool nb',.slice B' m' d']] W (Zmw W X Y)) :
    Calls Tryz.prog 72 #[.agg #[.bool na,.slice A n c,.bool nb,.slice B m d],.agg #[.bool na',.slice A' n' c',.bool nb',.slice B' m' d'],.func (.func F) #[] #[]] w (Zgs w (Qf X Y)):=by
 obtain⟨W0,J,C,⟨q0,q1,q2,q3⟩,s0⟩:=Zfj w 32 #[.bool na,.slice A n c,.bool nb,.slice B m d] 32 #[.bool na',.slice A' n' c',.bool nb',.slice B' m' d'] 32 #[.bool false,.slice none 0 0,.bool false,.slice none 0 0] 33 #[.int .i64 0];have hA:=Zb (ha.below C);have hD:=Zb (hb.below C);replace hF:=Zb hF;clear ha hb;replace J:=Zb J;obtain⟨a0,a1,a2,a3,-⟩:=q0.four;have hq:=Zb (Qc q0 (Qc q1 (Qc q2 q3)));clear q0 q1 q2 q3
 go_enter_defers Tryz.func72,Tryz.ntmps72
 have a6:=J.out;go_wp2_with fail;clear J a6;refine(Zdk na nb A B n c m d a W0 hA.out).mono ?_;rintro e w1 ⟨rfl,o⟩;have O:Below w.heap.size w w1:=Gs C o;have s1:W0.heap.size<=w1.heap.size:=o.size;replace hA:=Zb (hA.out.below o);replace hD:=Zb (hD.out.below o);obtain⟨q0,q1,q2,q3⟩:=hq.out;replace q0:=Zc o q0;replace q1:=Zc o q1;replace q2:=Zc o q2;replace q3:=Zc o q3;clear hq o C a0 a1 a2 a3;obtain⟨b0,b1,b2,b3,-⟩:=q1.four;have hq:=Zb (Qc q0 (Qc q1 (Qc q2 q3)));clear q0 q1 q2 q3;go_wp2_with fail;refine(Zex w1).mono ?_;rintro e w1 ⟨rfl,rfl⟩;go_wp2_with fail;refine(Zdk na' nb' A' B' n' c' m' d' b w1 hD.out).mono ?_;rintro e w2 ⟨rfl,h⟩;have a4:Below w.heap.size w w2:=Gs O h;have s2:w1.heap.size<=w2.heap.size:=h.size;replace hA:=Zb (hA.out.below h);replace hD:=Zb (hD.out.below h);obtain⟨q0,q1,q2,q3⟩:=hq.out;replace q0:=Zc h q0;replace q1:=Zc h q1;replace q2:=Zc h q2;replace q3:=Zc h q3;clear hq h O b0 b1 b2 b3;obtain⟨a0,a1,a2,a3,-⟩:=q0.four;obtain⟨b0,b1,b2,b3,-⟩:=q1.four;have hq:=Zb (Qc q2 q3);clear q0 q1 q2 q3;go_wp2_with fail;refine(Zex w2).mono ?_;rintro e w2 ⟨rfl,rfl⟩;go_wp2_with fail;refine(hF.out w2 hA.out hD.out).mono ?_;rintro e w3 ⟨I,nu,U,k1,u,nv,V,k2,v,rfl,hU,hV⟩;have a5:Below w.heap.size w w3:=Gs a4 I;have s3:w2.heap.size<=w3.heap.size:=I.size;have hn:nv=false:=by rw[hV.1];simp;omega
 subst hn;have q2:=Zc I hq.out.1;have q3:=Zc I hq.out.2;clear hq I a4 a0 a1 a2 a3 b0 b1 b2 b3 hA hD hF;have hq:=Zb (Qc q2 q3);replace hU:=Zb hU;replace hV:=Zb hV;clear q2 q3;go_wp2_with fail;refine(Zhu nu U V k1 u k2 v X Y w3 hU.out hV.out hY).mono ?_;exact Cp
theorem Zr7(x y:Value)(W:World):(callFunc 73 #[x,y]).run Tryz.prog W=.ok (.enter 73 #[x,y]) W:=by simp[go_sem]
theorem Zra(x y:Value)(W:World):(callFunc 97 #[x,y]).run Tryz.prog W=.ok (.enter 97 #[x,y]) W:=by simp[go_sem]
def Sm(r:Rat):Prop:=r.num.natAbs<pw 1000/\r.den<pw 1000
theorem Zb6{x y:Nat}{i j:Nat}(hx:x<pw i)(hy:y<pw j):x*y<pw (i+j):=by
 rw[Zja];exact Nat.mul_lt_mul'' hx hy
theorem Zkp{x y:Int}(hx:x.natAbs<pw 1000)(hy:y.natAbs<pw 1000):(x*y).natAbs<pw 2000:=by
 rw[Int.natAbs_mul];have h:=Zb6 hx hy;rw[show 1000+1000=2000 from rfl]at h;exact h
theorem Zhy(k:Nat):pw k+pw k<=pw (k+1):=by rw[Zbh];generalize pw k=x;omega
theorem Zvv:pw 2000+pw 2000<=pw 4096:=Qa (Zhy 2000) (Zbm Gi)
theorem Zc7{x y:Int}(hx:x.natAbs<pw 1000)(hy:y.natAbs<pw 1000):(x*y).natAbs<pw 4096:=Qn (Zkp hx hy) (Zbm Gi)
theorem sm_sub{x y z v:Int}(hx:x.natAbs<pw 1000)(hy:y.natAbs<pw 1000)(hz:z.natAbs<pw 1000)(hv:v.natAbs<pw 1000):(x*y-z*v).natAbs<pw 4096:=by
 have h1:=Zkp hx hy;have h2:=Zkp hz hv;have h3:=Zvv;omega
theorem Sm.dn{r:Rat}(h:Sm r):((r.den:Nat):Int).natAbs<pw 1000:=by simpa using h.2
theorem Zn7(a b:Rat):Qf (a.num*b.num) ((a.den:Int)*(b.den:Nat))=a*b:=by
 rw[<- Rat.divInt_mul_divInt,Qg,Qg]
theorem Zsy(a b:Rat):Qf (a.num*b.den-b.num*a.den) ((a.den:Int)*(b.den:Nat))=a-b:=by
 have ha:((a.den:Nat):Int)≠0:=by have:=a.den_pos;omega
 have hb:((b.den:Nat):Int)≠0:=by have:=b.den_pos;omega
 rw[<- Rat.divInt_sub_divInt _ _ ha hb,Qg,Qg]
theorem Zcx(a b:Rat):0<((a.den:Int)*(b.den:Nat)):=Int.mul_pos (by have:=a.den_pos;omega) (by have:=b.den_pos;omega)
theorem Ft{G:Prop}(h:G:=by
 exact⟨au,_,_,_,_,_,_,_,_,rfl,kW _ _ _ _ _ hX.out.1,kW _ _ _ _ _ hX.out.2⟩):G:=h
theorem Zoj(na nb na' nb':Bool)(A B A' B':Option Addr)(n c m d n' c' m' d':Nat)(a b:Rat)(w:World)(ha:Fr w na A n c nb B m d a)(hb:Fr w na' A' n' c' nb' B' m' d' b)(sa:Sm a)(sb:Sm b) :
    Calls Tryz.prog 68 #[.agg #[.bool na,.slice A n c,.bool nb,.slice B m d],.agg #[.bool na',.slice A' n' c',.bool nb',.slice B' m' d']] w (Zgs w (a-b)):=by
 obtain⟨W0,u,f,⟨q0,q1,q2⟩,s0⟩:=Zda w 32 #[.bool na,.slice A n c,.bool nb,.slice B m d] 32 #[.bool na',.slice A' n' c',.bool nb',.slice B' m' d'] 32 #[.bool false,.slice none 0 0,.bool false,.slice none 0 0];have hA:=Zb (ha.below f);have hD:=Zb (hb.below f);have hF:=λ(W:World) (h1:Fr W na A n c nb B m d a) (h2:Fr W na' A' n' c' nb' B' m' d' b)=>Sub1_ok na nb na' nb' A B A' B' n c m d n' c' m' d' a b W h1 h2 (Zc7 sa.1 sb.dn) (Zc7 sb.1 sa.dn) (sm_sub sa.1 sb.dn sb.1 sa.dn) (Zc7 sa.dn sb.dn);have hG:=Zb (Zn4 97 na nb na' nb' A B A' B' n c m d n' c' m' d' a b _ _ W0 hA.out hD.out (Zcx a b) Zra hF);rw[Zsy]at hG;clear hF ha hb sa sb hA hD;obtain⟨a0,a1,a2,a3,-⟩:=q0.four;obtain⟨b0,b1,b2,b3,-⟩:=q1.four;replace q2:=Zb q2;clear q0 q1;go_in;go_wp2_with fail;refine hG.out.mono ?_;rintro e w1 ⟨h,nx,Ax,kx,cx,ny,Ay,ky,cy,rfl,hX⟩;have o:Below w.heap.size w w1:=Gs f h;have s1:W0.heap.size<=w1.heap.size:=h.size;replace q2:=Gm h q2;replace hX:=Zb hX;clear h a0 a1 a2 a3 b0 b1 b2 b3 f hG u;obtain⟨a5,Y,a4,U,O,E,J,I⟩:=q2.out.four;go_wp2_with fail;obtain⟨W5,C,au,q2,kW,-,s5⟩:=Zm nx Ax kx cx ny Ay ky cy o Gk q2.out;rw[C];obtain⟨r0,r1,r2,r3,-⟩:=q2.four;refine bodyPost_ret (v:=.tuple #[.agg #[.bool nx,.slice Ax kx cx,.bool ny,.slice Ay ky cy],.int .i64 0]) (by simp[results,Tryz.results68,go_sem,r0,r1,r2,r3]) rfl ?_;exact Ft
theorem Zit(na nb na' nb':Bool)(A B A' B':Option Addr)(n c m d n' c' m' d':Nat)(a b:Rat)(w:World)(ha:Fr w na A n c nb B m d a)(hb:Fr w na' A' n' c' nb' B' m' d' b)(sa:Sm a)(sb:Sm b) :
    Calls Tryz.prog 52 #[.agg #[.bool na,.slice A n c,.bool nb,.slice B m d],.agg #[.bool na',.slice A' n' c',.bool nb',.slice B' m' d']] w (Zgs w (a*b)):=by
 obtain⟨W0,u,f,⟨q0,q1,q2⟩,s0⟩:=Zda w 32 #[.bool na,.slice A n c,.bool nb,.slice B m d] 32 #[.bool na',.slice A' n' c',.bool nb',.slice B' m' d'] 32 #[.bool false,.slice none 0 0,.bool false,.slice none 0 0];have hA:=Zb (ha.below f);have hD:=Zb (hb.below f);have hF:=λ(W:World) (h1:Fr W na A n c nb B m d a) (h2:Fr W na' A' n' c' nb' B' m' d' b)=>Mul1_ok na nb na' nb' A B A' B' n c m d n' c' m' d' a b W h1 h2 (Zc7 sa.1 sb.1) (Zc7 sa.dn sb.dn);have hG:=Zb (Zn4 73 na nb na' nb' A B A' B' n c m d n' c' m' d' a b _ _ W0 hA.out hD.out (Zcx a b) Zr7 hF);rw[Zn7]at hG;clear hF ha hb sa sb hA hD;obtain⟨a0,a1,a2,a3,-⟩:=q0.four;obtain⟨b0,b1,b2,b3,-⟩:=q1.four;replace q2:=Zb q2;clear q0 q1;go_in;go_wp2_with fail;refine hG.out.mono ?_;rintro e w1 ⟨h,nx,Ax,kx,cx,ny,Ay,ky,cy,rfl,hX⟩;have o:Below w.heap.size w w1:=Gs f h;have s1:W0.heap.size<=w1.heap.size:=h.size;replace q2:=Gm h q2;replace hX:=Zb hX;clear h a0 a1 a2 a3 b0 b1 b2 b3 f hG u;obtain⟨a5,Y,a4,U,O,E,J,I⟩:=q2.out.four;go_wp2_with fail;obtain⟨W5,C,au,q2,kW,-,s5⟩:=Zm nx Ax kx cx ny Ay ky cy o Gk q2.out;rw[C];obtain⟨r0,r1,r2,r3,-⟩:=q2.four;refine bodyPost_ret (v:=.tuple #[.agg #[.bool nx,.slice Ax kx cx,.bool ny,.slice Ay ky cy],.int .i64 0]) (by simp[results,Tryz.results52,go_sem,r0,r1,r2,r3]) rfl ?_;exact Ft
theorem Zwb(na nb:Bool)(A B:Option Addr)(n c m d:Nat)(za zb:Int)(w:World)(ha:Wd w na A n c za)(hb:Wd w nb B m d zb) :
    Calls Tryz.prog 77 #[.agg #[.bool na,.slice A n c],.agg #[.bool nb,.slice B m d]] w (ResW w (za+zb)):=by
 have aU:=ha.lim;have aD:=hb.lim;have hn:=ha.2.1;have hm:=hb.2.1;have C:∀ X Y Z V:Obj,Below w.heap.size w ((((w.alloc X).alloc Y).alloc Z).alloc V):=λX Y Z V=>((((Qe w.heap.size w).alloc (Qb _) _).alloc Gh _).alloc Gg _).alloc Gg _
 have hW:∀ X Y Z t,WL ((((w.alloc X).alloc Y).alloc Z).alloc (.cells #[.bool na,.slice A n c,.bool nb,.slice B m d] t)) (some ⟨w.heap.size+1+1+1,0,none⟩) 2 2 [⟨na,A,n,c,digits za.natAbs⟩,⟨nb,B,m,d,digits zb.natAbs⟩]:=λX Y Z t=>by
  exact IC
 have hW:=Zb hW;have C:=Zb C;have u:Hid (okW na (digits za.natAbs)=true/\okW nb (digits zb.natAbs)=true):=⟨ha.ok,hb.ok⟩;have a1:=Zb ha.sgEq;have a2:=Zb hb.sgEq;clear ha hb;go_in;go_wp2_with fail;refine(Zdn (hW.out _ _ _ _) (by have:=u.out;simp[WE.ok,this])).mono ?_;rintro e w1 ⟨rfl,ai⟩;obtain⟨f,U⟩:=Zdf ai;have a4:w.heap.size+1+1+1<w1.heap.size:=by have:=ai.size;simp at this;omega
 have h:Below w.heap.size w w1:=(C.out _ _ _ _).trans (ai.mono Gg);have g0:w1.cell? ⟨w.heap.size,0,none⟩=some (.bool na):=by simp[f,go_sem]
 have g1:w1.cell? ⟨w.heap.size,1,none⟩=some (.slice A n c):=by simp[f,go_sem]
 have g2:w1.cell? ⟨w.heap.size+1,0,none⟩=some (.bool nb):=by simp[f,go_sem]
 have g3:w1.cell? ⟨w.heap.size+1,1,none⟩=some (.slice B m d):=by simp[f,go_sem]
 have gf:w1.frozen? ⟨w.heap.size+1,0,none⟩=false:=by simp[U,go_sem]
 have gB:Blk w1 (w.heap.size+1) 30 #[.bool nb,.slice B m d]:=by
  exact IB
 have g7:Blk w1 (w.heap.size+1+1) 30 #[.bool false,.slice none 0 0]:=by
  refine Zc ai (Blk.alloc ?_ _);exact Ev
 have I:=aU.below h;have E:=aD.below h;have HB:=Zb gB;clear gB f U;go_wp2_with fail;refine(Zsr _ _ _ _ _ _ _ _ _ _ _ (by exact I) (by exact E) hn hm).mono ?_;rintro e w2 ⟨O,J,A2,n2,c2,o,rfl,a3⟩;have a0:Below w.heap.size w w2:=Gs h O;have m7:=Zc O g7;have m3:=m7.cell 0;have m4:=m7.cell 1;have m5:=m7.frozen 0;have m6:=m7.frozen 1;simp at m3 m4;have HM:=Zb m7;clear m7;go_wp2_with fail
 have HZ:sg na za.natAbs+sg nb zb.natAbs=za+zb:=by
  have h1:=a1.out;have h2:=a2.out;rw[Zh]at h1 h2;rw[h1,h2]
 refine bodyPost_ret (v:=.tuple #[.agg #[.bool J,.slice A2 n2 c2],.int .i64 o]) (by simp[results,Tryz.results77,go_sem,m3,m4]) rfl ?_;exact ResW.box (HZ▸a3) a0 Gk HM.out
theorem sm_addA{x y z v:Int}(hx:x.natAbs<pw 1000)(hy:y.natAbs<pw 1000)(hz:z.natAbs<pw 1000)(hv:v.natAbs<pw 1000):(x*y+z*v).natAbs<pw 4096:=by
 have h1:=Zkp hx hy;have h2:=Zkp hz hv;have h3:=Zvv;omega
theorem Zvh(a b:Rat):Qf (a.num*b.den+b.num*a.den) ((a.den:Int)*(b.den:Nat))=a+b:=by
 have ha:((a.den:Nat):Int)≠0:=by have:=a.den_pos;omega
 have hb:((b.den:Nat):Int)≠0:=by have:=b.den_pos;omega
 rw[<- Rat.divInt_add_divInt _ _ ha hb,Qg,Qg]
theorem Zq9(x y:Value)(W:World):(callFunc 76 #[x,y]).run Tryz.prog W=.ok (.enter 76 #[x,y]) W:=by simp[go_sem]
theorem Add1_ok(na nb na' nb':Bool)(A B A' B':Option Addr)(n c m d n' c' m' d':Nat)(a b:Rat)(w:World)(ha:Fr w na A n c nb B m d a)(hb:Fr w na' A' n' c' nb' B' m' d' b)
    (h1:(a.num*b.den).natAbs<pw 4096) (h2:(b.num*a.den).natAbs<pw 4096) (hs:(a.num*b.den+b.num*a.den).natAbs<pw 4096) (ht:((a.den:Int)*(b.den:Nat)).natAbs<pw 4096) :
    Calls Tryz.prog 76 #[.agg #[.bool na,.slice A n c,.bool nb,.slice B m d],.agg #[.bool na',.slice A' n' c',.bool nb',.slice B' m' d']] w (Zmw w (a.num*b.den+b.num*a.den) ((a.den:Int)*(b.den:Nat))):=by
 obtain⟨W0,a4,Y,⟨q0,q1,q2,q3⟩,s0⟩:=Zfj w 32 #[.bool na,.slice A n c,.bool nb,.slice B m d] 32 #[.bool na',.slice A' n' c',.bool nb',.slice B' m' d'] 30 #[.bool false,.slice none 0 0] 30 #[.bool false,.slice none 0 0];have hmx:=Gt;have hA:=Zb (ha.below Y);have hD:=Zb (hb.below Y);replace hs:=Zb hs;replace ht:=Zb ht;replace h1:=Zb h1;replace h2:=Zb h2;have sz:=Zb Y.size;have hB:=Zb Y;clear ha hb Y s0;replace q0:=Zb q0;replace q1:=Zb q1;replace q2:=Zb q2;replace q3:=Zb q3;obtain⟨a0,a1,a2,a3,-⟩:=q0.out.four;obtain⟨b0,b1,b2,b3,-⟩:=q1.out.four;replace a4:=Zb a4;go_in;go_wp2_with fail;rw[a4.out];clear a4;refine Zad [19] (λW'=>W'.cell? ⟨w.heap.size,0,none⟩=some (.bool na)/\W'.cell? ⟨w.heap.size,1,none⟩=some (.slice A n c)/\W'.cell? ⟨w.heap.size,2,none⟩=some (.bool nb)/\W'.cell? ⟨w.heap.size,3,none⟩=some (.slice B m d)/\W'.cell? ⟨w.heap.size+1,0,none⟩=some (.bool na')/\W'.cell? ⟨w.heap.size+1,1,none⟩=some (.slice A' n' c')/\W'.cell? ⟨w.heap.size+1,2,none⟩=some (.bool nb')/\W'.cell? ⟨w.heap.size+1,3,none⟩=some (.slice B' m' d')) hmx ⟨a0,a1,a2,a3,b0,b1,b2,b3⟩ (λ_=>?_);refine Zin 8 [0,1,3,4,10,11,12,13] rfl Gj ⟨a0,a1,a2,a3,b0,b1,b2,b3⟩ ?_
 iterate 8 (refine tkA ?_;try simp only[Qd,Zf6,Zfl,Zfx,Gr,Gq,Gp])
 refine tk0 ?_;refine wpAnyL_o 2 λK hK=>?_;go_simp;refine(Zet na nb na' nb' A B A' B' n c m d n' c' m' d' a b W0.drew hA.out hD.out h1.out).mono ?_;rintro e w1 ⟨h,nu,U,k1,u,rfl,hU⟩;replace h:=Zq h;replace hU:=Zb hU;replace q0:=Gm h q0;replace q1:=Gm h q1;replace q2:=Gm h q2;replace q3:=Gm h q3;replace hA:=Zb (hA.out.below h);replace hD:=Zb (hD.out.below h);replace hB:=Zb (hB.out.trans (h.mono sz.out));replace sz:=Zb (Qa sz.out h.size);clear a0 a1 a2 a3 b0 b1 b2 b3;obtain⟨a0,a1,a2,a3,-⟩:=q0.out.four;obtain⟨b0,b1,b2,b3,-⟩:=q1.out.four;clear h;refine hK.out _ _ (λ_=>⟨a0,a1,a2,a3,b0,b1,b2,b3⟩) ?_;clear hK K
 try simp only[Qd,Zf6,Zfl,Zfx]
 refine wpAnyL_o 5 λK hK=>?_;go_simp;refine(Zet na' nb' na nb A' B' A B n' c' m' d' n c m d b a w1 hD.out hA.out h2.out).mono ?_;rintro e w2 ⟨C,nv,V,k2,v,rfl,hV⟩;replace hU:=Zb (hU.out.below C);replace hV:=Zb hV;replace q0:=Gm C q0;replace q1:=Gm C q1;replace q2:=Gm C q2;replace q3:=Gm C q3;replace hA:=Zb (hA.out.below C);replace hD:=Zb (hD.out.below C);replace hB:=Zb (hB.out.trans (C.mono sz.out));replace sz:=Zb (Qa sz.out C.size);clear a0 a1 a2 a3 b0 b1 b2 b3;obtain⟨a0,a1,a2,a3,-⟩:=q0.out.four;obtain⟨b0,b1,b2,b3,-⟩:=q1.out.four;clear C;refine hK.out _ _ (λ_=>⟨a0,a1,a2,a3,b0,b1,b2,b3⟩) ?_;clear hK K
 try simp only[Qd,Zf6,Zfl,Zfx]
 refine wpAnyL_o 6 λK hK=>?_;go_simp;refine(Zwb nu nv U V k1 u k2 v _ _ w2 hU.out hV.out).mono ?_;rintro e w3 ⟨I,np,P,k,q,code,rfl,hR⟩;have hP:=Zb (hR.small hs.out);have O:=hR.code0 hs.out;subst O;clear hs hR hU hV;replace q0:=Gm I q0;replace q1:=Gm I q1;replace q2:=Gm I q2;replace q3:=Gm I q3;replace hA:=Zb (hA.out.below I);replace hD:=Zb (hD.out.below I);replace hB:=Zb (hB.out.trans (I.mono sz.out));replace sz:=Zb (Qa sz.out I.size);clear a0 a1 a2 a3 b0 b1 b2 b3;obtain⟨a0,a1,a2,a3,-⟩:=q0.out.four;obtain⟨b0,b1,b2,b3,-⟩:=q1.out.four;clear I;refine hK.out _ _ (λ_=>⟨a0,a1,a2,a3,b0,b1,b2,b3⟩) ?_;clear hK K
 try simp only[Qd,Zf6,Zfl,Zfx]
 refine Zin 2 [7,8] rfl Gj ⟨a0,a1,a2,a3,b0,b1,b2,b3⟩ ?_
 iterate 2 (refine tkA ?_;try simp only[Qd,Zf6,Zfl,Zfx,Gr,Gq,Gp])
 refine tk0 ?_;refine wpAnyL_o 9 λK hK=>?_;go_simp;refine(Zdo np P k q w3).mono ?_;rintro e w4 ⟨rfl,E⟩;replace hP:=Zb (hP.out.below E);replace q0:=Gm E q0;replace q1:=Gm E q1;replace q2:=Gm E q2;replace q3:=Gm E q3;replace hA:=Zb (hA.out.below E);replace hD:=Zb (hD.out.below E);replace hB:=Zb (hB.out.trans (E.mono sz.out));replace sz:=Zb (Qa sz.out E.size);clear a0 a1 a2 a3 b0 b1 b2 b3;obtain⟨a0,a1,a2,a3,-⟩:=q0.out.four;obtain⟨b0,b1,b2,b3,-⟩:=q1.out.four;clear E;refine hK.out _ _ (λ_=>⟨a0,a1,a2,a3,b0,b1,b2,b3⟩) ?_;clear hK K
 try simp only[Qd,Zf6,Zfl,Zfx]
 refine wpAnyL_o 14 λK hK=>?_;go_simp;refine(Zhx nb nb' B B' m d m' d' a.den b.den w4 hA.out.2 hD.out.2).mono ?_;rintro e w5 ⟨o,a5,P',k',q',code,rfl,hR⟩;replace hP:=Zb (hP.out.below o);have J:=Zb (hR.small ht.out);have O:=hR.code0 ht.out;subst O;clear ht hR;replace q0:=Gm o q0;replace q1:=Gm o q1;replace q2:=Gm o q2;replace q3:=Gm o q3;replace hA:=Zb (hA.out.below o);replace hD:=Zb (hD.out.below o);replace hB:=Zb (hB.out.trans (o.mono sz.out));replace sz:=Zb (Qa sz.out o.size);clear a0 a1 a2 a3 b0 b1 b2 b3;obtain⟨a0,a1,a2,a3,-⟩:=q0.out.four;obtain⟨b0,b1,b2,b3,-⟩:=q1.out.four;clear o;refine hK.out _ _ (λ_=>⟨a0,a1,a2,a3,b0,b1,b2,b3⟩) ?_;clear hK K
 try simp only[Qd,Zf6,Zfl,Zfx]
 refine Zin 2 [15,16] rfl Gj ⟨a0,a1,a2,a3,b0,b1,b2,b3⟩ ?_
 iterate 2 (refine tkA ?_;try simp only[Qd,Zf6,Zfl,Zfx,Gr,Gq,Gp])
 refine tk0 ?_;refine wpAnyL_o 17 λK hK=>?_;go_simp;refine(Zdo a5 P' k' q' w5).mono ?_;rintro e w6 ⟨rfl,f⟩;replace hP:=Zb (hP.out.below f);replace J:=Zb (J.out.below f);replace q0:=Gm f q0;replace q1:=Gm f q1;replace q2:=Gm f q2;replace q3:=Gm f q3;replace hA:=Zb (hA.out.below f);replace hD:=Zb (hD.out.below f);replace hB:=Zb (hB.out.trans (f.mono sz.out));replace sz:=Zb (Qa sz.out f.size);clear a0 a1 a2 a3 b0 b1 b2 b3;obtain⟨a0,a1,a2,a3,-⟩:=q0.out.four;obtain⟨b0,b1,b2,b3,-⟩:=q1.out.four;clear f;obtain⟨x0,x1,f0,f1⟩:=q2.out.two;refine hK.out _ _ (λ_=>⟨a0,a1,a2,a3,b0,b1,b2,b3⟩) ?_;clear hK K
 try simp only[Qd,Zf6,Zfl,Zfx]
 refine wpAnyL_o 18 λK hK=>?_;go_simp;obtain⟨W5,a8,a9,a6,kW,kB,s5⟩:=Zbt np P k q hB.out Gk q2.out;rw[a8];clear a8 x0 x1 f0 f1 a0 a1 a2 a3 b0 b1 b2 b3 hA hD;replace q0:=kB _ _ _ Gk q0.out;replace q1:=kB _ _ _ Gk q1.out;obtain⟨a0,a1,a2,a3,-⟩:=q0.four;obtain⟨b0,b1,b2,b3,-⟩:=q1.four;replace q3:=Zb (kB _ _ _ Gk q3.out);replace hP:=Zb (kW _ _ _ _ _ hP.out);replace J:=Zb (kW _ _ _ _ _ J.out);clear kW kB q2 hB q0 q1;obtain⟨y0,y1,g0,g1⟩:=q3.out.two;refine hK.out _ _ (λ_=>⟨a0,a1,a2,a3,b0,b1,b2,b3⟩) ?_;clear hK K
 try simp only[Qd,Zf6,Zfl,Zfx]
 refine Zr (i:=19) rfl Gj Gj (λK hK=>?_);go_simp;obtain⟨W6,a7,b5,b4,kW,kB,s6⟩:=Zbt a5 P' k' q' a9 Gk q3.out;rw[a7];clear a7 y0 y1 g0 g1 a0 a1 a2 a3 b0 b1 b2 b3;replace a6:=kB _ _ _ Gk a6;replace hP:=Zb (kW _ _ _ _ _ hP.out);replace J:=Zb (kW _ _ _ _ _ J.out);clear kW kB q3 a9;refine hK.out _ _ ?_;clear hK K
 try simp only[Qd,Zf6,Zfl,Zfx]
 refine wpAnyL_fin ?_;obtain⟨r0,r1,-⟩:=a6.two;obtain⟨r2,r3,-⟩:=b4.two;go_wp2_with fail;refine bodyPost_ret (v:=.tuple #[.agg #[.bool np,.slice P k q],.agg #[.bool a5,.slice P' k' q']]) (by simp[results,Tryz.results76,go_sem,r0,r1,r2,r3]) rfl ?_;exact⟨b5,_,_,_,_,_,_,_,_,rfl,hP.out,J.out⟩
theorem Zsi(na nb na' nb':Bool)(A B A' B':Option Addr)(n c m d n' c' m' d':Nat)(a b:Rat)(w:World)(ha:Fr w na A n c nb B m d a)(hb:Fr w na' A' n' c' nb' B' m' d' b)(sa:Sm a)(sb:Sm b) :
    Calls Tryz.prog 53 #[.agg #[.bool na,.slice A n c,.bool nb,.slice B m d],.agg #[.bool na',.slice A' n' c',.bool nb',.slice B' m' d']] w (Zgs w (a+b)):=by
 obtain⟨W0,u,f,⟨q0,q1,q2⟩,s0⟩:=Zda w 32 #[.bool na,.slice A n c,.bool nb,.slice B m d] 32 #[.bool na',.slice A' n' c',.bool nb',.slice B' m' d'] 32 #[.bool false,.slice none 0 0,.bool false,.slice none 0 0];have hA:=Zb (ha.below f);have hD:=Zb (hb.below f);have hF:=λ(W:World) (h1:Fr W na A n c nb B m d a) (h2:Fr W na' A' n' c' nb' B' m' d' b)=>Add1_ok na nb na' nb' A B A' B' n c m d n' c' m' d' a b W h1 h2 (Zc7 sa.1 sb.dn) (Zc7 sb.1 sa.dn) (sm_addA sa.1 sb.dn sb.1 sa.dn) (Zc7 sa.dn sb.dn);have hG:=Zb (Zn4 76 na nb na' nb' A B A' B' n c m d n' c' m' d' a b _ _ W0 hA.out hD.out (Zcx a b) Zq9 hF);rw[Zvh]at hG;clear hF ha hb sa sb hA hD;obtain⟨a0,a1,a2,a3,-⟩:=q0.four;obtain⟨b0,b1,b2,b3,-⟩:=q1.four;replace q2:=Zb q2;clear q0 q1;go_in;go_wp2_with fail;refine hG.out.mono ?_;rintro e w1 ⟨h,nx,Ax,kx,cx,ny,Ay,ky,cy,rfl,hX⟩;have o:Below w.heap.size w w1:=Gs f h;have s1:W0.heap.size<=w1.heap.size:=h.size;replace q2:=Gm h q2;replace hX:=Zb hX;clear h a0 a1 a2 a3 b0 b1 b2 b3 f hG u;obtain⟨a5,Y,a4,U,O,E,J,I⟩:=q2.out.four;go_wp2_with fail;obtain⟨W5,C,au,q2,kW,-,s5⟩:=Zm nx Ax kx cx ny Ay ky cy o Gk q2.out;rw[C];obtain⟨r0,r1,r2,r3,-⟩:=q2.four;refine bodyPost_ret (v:=.tuple #[.agg #[.bool nx,.slice Ax kx cx,.bool ny,.slice Ay ky cy],.int .i64 0]) (by simp[results,Tryz.results53,go_sem,r0,r1,r2,r3]) rfl ?_;exact Ft
theorem Znd(A:Option Addr)(n c s:Nat)(l:List Nat)(w:World)(h:Lim w A n c l)(hs:s<32)(hn9:n<=1000000) :
    Calls Tryz.prog 130 #[.slice A n c,.int .u64 s] w (λe w'=>∃ v o,e=.returned v/\OwnL 143 w' w.heap.size v o/\o.length=n+1/\val o=2^s*val l/\Below w.heap.size w w'):=by
 obtain⟨i0,hi,I,O,U⟩:=info_parts Zdc;have a4:=h.2.1;have E:=h.2.2.1;unfold maxLen at E;go_in;go_wp2_with fail
 go_loopw [7,6,5] (λiv cv ov wr=>∃ i cy:Nat,i<=n/\iv=.int .i64 i/\cv=.int .u64 cy/\LeftP w s l i cy ov wr) (λiv _ _ _=>n-(intOf iv).toNat)
 case atStart=>exact⟨0,0,Nat.zero_le _,rfl,rfl,[],OwnL.nil _ _ _,rfl,Nat.pow_pos Gk,by simp[val],Qe _ _⟩
 case round =>
  obtain⟨i,cy,a3,rfl,rfl,o,ah,aI,u,hI,hB⟩:=hrel;replace aI:=Zb aI;replace hI:=Zb hI;by_cases hi':i<n
  ·obtain⟨b,of,rfl,C⟩:=(h.below hB).at_ hi'
   have hx:=h.lt.get i;obtain⟨p,hp⟩:=Gz (2^s);have a0:p<=2147483648:=by rw[<- hp];exact Qs Gk (show s<=31 by omega)
   have a1:p*l[i]?.getD 0<=2147483648*4294967295:=Nat.mul_le_mul a0 Gk
   have Y:IntKind.u64.wrap ((cy:Int)+IntKind.u64.wrap (((l[i]?.getD 0:Nat):Int)*2^s))=((cy+p*l[i]?.getD 0:Nat):Int):=by
    have e1:(((l[i]?.getD 0:Nat):Int)*2^s)=((p*l[i]?.getD 0:Nat):Int):=by rw[<- hp];push_cast;rw[Int.mul_comm]
    rw[hp]at u;rw[e1,Qi,Qi];omega
   rw[hp]at u;replace hp:=Zb hp;have eR:Hid (val (l.take (i+1))=val (l.take i)+pw i*l[i]?.getD 0):=Z3 l i;obtain⟨x,f⟩:=Gz (l[i]?.getD 0);rw[f]at C hx a1 Y eR;replace f:=Zb f;obtain⟨t,ht⟩:=Gz (cy+p*x)
   have io:t/4294967296<p:=by
    rw[Ql Gk,<- ht];have:p*x+p<=p*4294967296:=by rw[<- Nat.mul_succ];exact Nat.mul_le_mul_left _ Gk
    omega
   have a2:t<18446744073709551616:=Gk;rw[ht]at Y;replace ht:=Zb ht;go_wp2_with (go_loud (at_builtin;refine Zp _ rfl (.tmp 23) (.tmp 26) 28 rfl w.heap.size 143 i0 _ 1 4 Tryz.underlying28 hi I O U rfl Gk _ i (o.map limb) rfl (by have:=aI.out;subst this;exact ah.1.alloc _) _ _ 1 1 _ rfl (Zbo _ _ _) (by simp[Value.oneCell']) (by simp only[maxLen];omega) Gk Ge ?_;intro v1 w1 ax bM J));exact Ek
  obtain rfl:i=n:=Gk;have aL:=Zb h.len;have ef:cy<4294967296:=Qn u (show 2^s<=4294967296 from Qa (Qs Gi (show s<=32 by omega)) Gi);have E:((cy:Int))%4294967296=(cy:Int):=Gk;clear h;go_wp2_with (go_loud (at_builtin;refine Zp _ rfl (.tmp 30) (.tmp 33) 28 rfl w.heap.size 143 i0 _ 1 4 Tryz.underlying28 hi I O U rfl Gk _ i (o.map limb) rfl (by have:=aI.out;subst this;exact ah.1.alloc _) _ _ 1 1 _ rfl (Zbo _ _ _) (by simp[Value.oneCell']) (by simp only[maxLen];omega) Gk Ge ?_;intro v1 w1 ax bM J));exact EM
def RShortR(w:World)(g n D:Nat)(l:List Nat)(k r:Nat)(wr:World):Prop:=
 ∃ o:List Nat,Blk wr g 143 (Zt o)/\o.length=n/\Lt32 o/\r<D/\val (o.drop k)*D+r=val (l.drop k)/\Below w.heap.size w wr
theorem Zrq(A:Option Addr)(n c d:Nat)(l:List Nat)(w:World)(hl:Lim w A n c l)(hd0:0<d)(hd:d<4294967296)(hn9:n<=1000000) :
    Calls Tryz.prog 129 #[.slice A n c,limb d] w (Zoi w (val l) d):=by
 obtain⟨i0,hi,a4,a5,a9⟩:=info_parts Zdc;have b7:=Zgm (P:=Tryz.prog) 28 143 Tryz.underlying28 hi a4 a5 a9 (n:Int) n rfl Gk;have b6:=hl.2.1;have a2:=hl.2.2.1;unfold maxLen at a2;have u:=Zb hl.len;have b5:((d:Int) == 0)=false:=by simp;omega
 have b3:(d:Int)≠0:=Gk
 go_in;go_wp2_with fail
 go_loopw [8,7] (λiv rv wr=>∃ k r:Nat,k<=n/\iv=.int .i64 ((k:Int)-1)/\rv=.int .u64 r/\RShortR w w.heap.size n d l k r wr) (λiv _ _=>(intOf iv+1).toNat)
 case atStart=>exact⟨n,0,Qb _,rfl,rfl,List.replicate n 0,Qk _ _ _,by simp,Lt32.replicate _,hd0,by rw[Qr Gh,Qr (by rw[u.out];exact Qb _)];simp[val],(Qe _ _).alloc (Qb _) _⟩
 case round =>
  obtain⟨k,r,hk,rfl,rfl,o,h,f,Y,hr,hI,hB⟩:=hrel;replace f:=Zb f;replace hI:=Zb hI;rcases k with _|k
  ·have O:=hI.out
   rw[Qx,Qx]at O;obtain⟨e1,e2⟩:=Znp (U:=val l) (V:=d) (q:=val o) (R:=r) Gk hr;have a1:=Lim.of_blk h Y (by rw[f.out];unfold maxLen;omega);rw[f.out]at a1;have cW:r<4294967296:=Gk;have b8:((r:Int))%4294967296=(r:Int):=Gk;replace e1:=Zb e1;replace e2:=Zb e2;clear O;go_wp2_with fail;refine(Zdx _ _ _ _ _ a1 Gk).mono ?_;rintro e w2 ⟨A2,n2,c2,l2,rfl,b1,rfl,a0⟩
   have E:∀ t,Lim (w2.alloc (.cells #[limb r] t)) (some ⟨w2.heap.size,0,none⟩) 1 1 [r]:=λt=>by
    exact Io
   replace E:=Zb E;go_wp2_with fail;refine(Zdx _ _ _ _ _ (E.out _) Gk).mono ?_;rintro e w3 ⟨A3,n3,c3,l3,rfl,a7,I,b2⟩;have C:Below w2.heap.size w2 w3:=((Qe w2.heap.size w2).alloc (Qb _) _).trans (b2.mono Gh);replace I:=Zb I;go_wp2_with fail
   go_ret2
   refine⟨_,_,_,_,_,_,rfl,by rw[<- e1.out];exact b1.below C,?_,(Gs hB a0).trans (C.mono (Qa hB.size a0.size))⟩;have:=I.out;rw[show val [r]=r by simp[val]]at this;rw[<- e2.out,<- this];exact a7
  obtain⟨b,of,rfl,a8⟩:=(hl.below hB).at_ (k:=k) Gk;have hx:=hl.lt.get k;have b0:=h.cell k;rw[Zaz o k (by rw[f.out];omega)]at b0;have b4:=h.frozen k;have a6:r*4294967296+l[k]?.getD 0<18446744073709551616:=Gk;go_wp2_with fail;obtain⟨x,J⟩:=Gz (l[k]?.getD 0);rw[J]at hx a6 ⊢
  have e1:((r:Int)*4294967296+(x:Int))/(d:Int)%4294967296=(((r*4294967296+x)/d:Nat):Int):=by
   have:(r*4294967296+x)/d<4294967296:=by
    rw[Ql hd0];exact FC
   rw[show ((r:Int)*4294967296+(x:Int))/(d:Int)=(((r*4294967296+x)/d:Nat):Int) by simp];generalize (r*4294967296+x)/d=z at *;omega
  have e2:((r:Int)*4294967296+(x:Int))%(d:Int)=(((r*4294967296+x)%d:Nat):Int):=Gh
  have hq:(r*4294967296+x)/d<4294967296:=by
   rw[Ql hd0];exact FC
  have a3:(r*4294967296+x)%d<d:=Nat.mod_lt _ hd0;have he:(r*4294967296+x)/d*d+(r*4294967296+x)%d=r*4294967296+x:=by rw[Nat.mul_comm];exact Nat.div_add_mod _ _
  rw[e1,e2];generalize (r*4294967296+x)/d=q at *;generalize (r*4294967296+x)%d=r' at *;refine⟨⟨k,r',by omega,rfl,rfl,o.set k q,by rw[<- Zbw];exact h.set_ _ _,by rw[List.length_set];exact f.out,Y.set _ hq,a3,?_,hB.setCell (p:=⟨w.heap.size,k,none⟩) (Qb _) _⟩,by simp[intOf] <;> omega⟩;exact Zmm (by rw[f.out];omega) (by rw[u.out];omega) hI.out (by rw[J];exact he)
