/- The reference's Normal. The reference's GreatSystem. -/
import Derived.Deep.LoopGhost
import Derived.Lib.AppendZeros
import Derived.Test.YthappeninglakaaGreatZd16
set_option maxRecDepth 100000
set_option maxHeartbeats 8000000
set_option linter.unusedSimpArgs false
set_option linter.unusedVariables false
namespace Go.Proofs.YthappeninglakaaGreat
open Go.RowKit
open Below renaming refl→Qa
open Nat renaming le_refl→Qb,le_trans→Qk,zero_le→Qu
open Act renaming put→Qc
open List renaming length_map→Qd,map_nil→Qe,getElem?_map→Qf,map_cons→Qg,length_range→Qj,length_replicate→Ql,replicate→Qm,range→Qn,not_mem_nil→Qo,mem_cons→Qp,getElem?_append_right→Qq,length_cons→Qs,nil_append→Qt,mem_of_getElem?→Qx,getElem?_range→Qy,append_toArray→Qz,size_toArray→QB,push_toArray→QC,length→QD,cons_append→QE,length_nil→QF,append_nil→QG
open OnlyNormal renaming normal→Qh
open Or renaming inl→Qi
open Blk renaming new→Qr
open _root_.Array renaming replicate_succ→Qv,replicate_zero→Qw
open And renaming intro→QA
open Kept renaming refl→QH
attribute [local go_sem] Zh
theorem Zj6(w:World):LimI w none 0 0 []:=⟨rfl,Qb _,Qu _,by simp,λh=>absurd h (by omega)⟩
theorem MatOA.lower{tS tF:TypeId}{w:World}{b b':Nat}{v:Value}{L:List RS}{Q:List (List Rat)}(h:MatOA tS tF w b v L Q)(hb:b'<=b):MatOA tS tF w b' v L Q:=by
 obtain⟨m1,m2,m3,m4⟩:=h;refine⟨?_,m2,λi r hr=>(m3 i r hr).lower hb,m4⟩;rcases m1 with m1|⟨g,sp,e,h1,h2⟩;exact .inl m1;exact .inr ⟨g,sp,e,Qk hb h1,h2⟩
theorem Zqx(A C:Option Addr)(n c k e0:Nat)(rs:List RI)(ws:List Int)(w:World)(h:MIL w A n c rs)(hw:LimI w C k e0 ws)(E:Int)(hE:Zc1 rs (List.replicate (min n 200) 0) ws=E)(h0:E≠0) :
    Calls Tryz.prog 47 #[.slice A n c,.slice C k e0] w λe w'=>e=.returned (.tuple #[.slice none 0 0,.int .i64 E])/\Below w.heap.size w w':=by
 rw[<- h.1,<- Zml rs [] ws]at hE;have t1:decide (E≠0)=true:=decide_eq_true h0;have y:(E != 0)=true:=by simpa using h0
 have u:(E == 0)=false:=by simpa using h0
 replace h:=Za h;replace hw:=Za hw;replace hE:=Za hE;replace h0:=Za h0;go_enter Tryz.func47,Tryz.ntmps47;go_wp2_with fail;refine(Zfs A none C n c 0 0 k e0 rs [] ws w h.out (Zj6 _) hw.out E hE.out).mono ?_;rintro e w1 ⟨rfl,f⟩;go_wp2_with fail;refine(Zfs A none C n c 0 0 k e0 rs [] ws w1 (h.out.below f) (Zj6 _) (hw.out.below f) E hE.out).mono ?_;rintro e w2 ⟨rfl,o⟩;go_wp2_with fail;go_returns;exact⟨rfl,f.trans (o.mono f.size)⟩
theorem Zti(A C:Option Addr)(n c e0 m:Nat)(rs:List RI)(ws:List Int)(w:World)(h:MIL w A n c rs)(hw:LimI w C n e0 ws)(hn0:0<n)(hn9:n<=200)(hm0:0<m)(hm9:m<=12)(o:∀ r ∈ rs,r.n=m)(hE:Zc1 rs (List.replicate (min n 200) 0) ws=0) :
    Calls Tryz.prog 47 #[.slice A n c,.slice C n e0] w λe w'=>∃ v L,e=.returned (.tuple #[v,.int .i64 0])/\Below w.heap.size w w'/\MatOA 35 41 w' w.heap.size v L (Zbz rs ws n m):=by
 rw[<- h.1,<- Zml rs [] ws]at hE;replace h:=Za h;replace hw:=Za hw;replace hE:=Za hE;replace o:=Za o;go_enter Tryz.func47,Tryz.ntmps47;go_wp2_with fail;refine(Zfs A none C n c 0 0 n e0 rs [] ws w h.out (Zj6 _) hw.out 0 hE.out).mono ?_;rintro e w1 ⟨rfl,f⟩;go_wp2_with fail;refine(Zsi A C n c e0 m rs ws w1 (h.out.below f) (hw.out.below f) hn0 (by omega) hm0 (by omega) o.out).mono ?_;rintro e w2 ⟨v,L,rfl,u,hM⟩;replace hM:=Za hM;go_wp2_with fail;go_returns;exact⟨v,L,rfl,f.trans (u.mono f.size),hM.out.lower f.size⟩
def ModI(rs:List RI)(n m k:Nat):Prop:=(∀ (j:Nat) (r:RI),j<n->j<210->rs[j]?=some r->(r.n<=4 \/ 12<r.n)/\r.n<=15)/\(n<=12 \/ 200<n)/\n<=210/\m<=300/\k<=300
theorem Zki(A B C:Option Addr)(n c m d k e0:Nat)(rs:List RI)(w:World)(h:MIL w A n c rs)(hm:m<=maxLen)(hk:k<=maxLen) :
    Calls Tryz.prog 38 #[.slice A n c,.slice B m d,.slice C k e0] w λe w'=>∃ b:Bool,e=.returned (.bool b)/\Below w.heap.size w w'/\(b=false->ModI rs n m k):=by
 have a0:=h.2.1;have O:=h.2.2.1;unfold maxLen at O hm hk;replace h:=Za h;go_enter Tryz.func38,Tryz.ntmps38;go_wp2_with fail
 go_loopw [7] (λiv wr=>∃ i:Nat,i<=n/\i<=210/\iv=.int .i64 i/\Hid (∀ (j:Nat) (r:RI),j<i->rs[j]?=some r->(r.n<=4 \/ 12<r.n)/\r.n<=15)/\Below w.heap.size w wr) (λiv _=>n-(intOf iv).toNat)
 case atStart=>exact⟨0,Qu _,Qu _,rfl,Za (λj r hj=>by omega),Qa _ _⟩
 case round =>
  obtain⟨i,Y,V,rfl,u,f⟩:=hrel;by_cases hin:i<n/\i<210
  case pos =>
   have t1:decide ((i:Int)<(n:Int))=true:=decide_eq_true (by omega);have t2:decide ((i:Int)<210)=true:=decide_eq_true (by omega);have bi:(i:Int)<(n:Int):=by omega
   obtain⟨g,o,r,rfl,he,c0,hL⟩:=(h.out.below f).at_ hin.1;have T:=hL.nlen;unfold maxLen at T;clear hL;by_cases hx:(4<r.n/\r.n<=12) \/ 15<r.n
   ·rcases hx with ⟨J,U⟩|J
    ·have u1:decide ((4:Int)<(r.n:Int))=true:=decide_eq_true (by omega)
     have u2:decide ((r.n:Int)<=12)=true:=decide_eq_true (by omega);replace he:=Za he;go_wp2_with fail;go_ret;exact⟨true,rfl,by first|exact f|exact Zf f _,λh=>by cases h⟩
    ·have u1:decide ((4:Int)<(r.n:Int))=true:=decide_eq_true (by omega)
     have u2:decide ((r.n:Int)<=12)=false:=decide_eq_false (by omega);have u3:decide ((15:Int)<(r.n:Int))=true:=decide_eq_true (by omega);replace he:=Za he;go_wp2_with fail;go_ret;exact⟨true,rfl,by first|exact f|exact Zf f _,λh=>by cases h⟩
   ·have I:Hid (∀ (j:Nat) (r:RI),j<i+1->rs[j]?=some r->(r.n<=4 \/ 12<r.n)/\r.n<=15):=Za (λj e' hj he'=>by
      rcases Nat.lt_or_ge j i with h'|h';exact u.out j e' h' he'
      ·obtain rfl:j=i:=by omega
       rw[he]at he';cases he';omega)
    replace he:=Za he;have u3:decide ((15:Int)<(r.n:Int))=false:=decide_eq_false (by omega);by_cases h4:4<r.n
    ·have u1:decide ((4:Int)<(r.n:Int))=true:=decide_eq_true (by omega)
     have u2:decide ((r.n:Int)<=12)=false:=decide_eq_false (by omega);go_wp2_with fail
     go_roundw
     case rel=>exact⟨i+1,by omega,by omega,by go_num,I,(by first|exact f|exact Zf f _)⟩
     case measure=>simp[intOf];omega
    ·have u1:decide ((4:Int)<(r.n:Int))=false:=decide_eq_false (by omega)
     go_wp2_with fail
     go_roundw
     case rel=>exact⟨i+1,by omega,by omega,by go_num,I,(by first|exact f|exact Zf f _)⟩
     case measure=>simp[intOf];omega
  have y:(n<=12 \/ 200<n)->n<=210->m<=300->k<=300->ModI rs n m k:=λa1 a2 a3 a4=>⟨λj r hj hj2 hr=>u.out j r (by omega) hr,a1,a2,a3,a4⟩;replace y:=Za y;clear u h;obtain⟨x1,y1⟩:∃ b,decide ((12:Int)<(n:Int))=b:=⟨_,rfl⟩;obtain⟨x2,y2⟩:∃ b,decide ((n:Int)<=200)=b:=⟨_,rfl⟩;obtain⟨x3,y3⟩:∃ b,decide ((210:Int)<(n:Int))=b:=⟨_,rfl⟩;obtain⟨x4,y4⟩:∃ b,decide ((300:Int)<(m:Int))=b:=⟨_,rfl⟩;obtain⟨x5,y5⟩:∃ b,decide ((300:Int)<(k:Int))=b:=⟨_,rfl⟩
  have hfin:∀ b:Bool,((x1 && x2) || (x3 || (x4 || x5)))=b->(b=false->ModI rs n m k):=λb hb hf=>by
   subst hf;simp only[Bool.or_eq_false_iff]at hb;obtain⟨h1,h2,h3,h4⟩:=hb;rw[h2]at y3;rw[h3]at y4;rw[h4]at y5;have z3:=of_decide_eq_false y3;have z4:=of_decide_eq_false y4;have z5:=of_decide_eq_false y5;refine y.out ?_ (by omega) (by omega) (by omega);cases x1 with
   | false=>have:=of_decide_eq_false y1;omega
   | true =>
    cases x2 with
    | false=>have:=of_decide_eq_false y2;omega
    | true=>cases h1
  replace hfin:=Za hfin;by_cases hi:i<n
  ·obtain rfl:i=210:=by omega
   have t1:decide (((210:Nat):Int)<(n:Int))=true:=decide_eq_true (by omega);have t2:decide (((210:Nat):Int)<210)=false:=by decide
   cases x1 <;> cases x2 <;> cases x3 <;> cases x4 <;> cases x5
   all_goals go_wp2_with fail
   all_goals (go_ret;exact⟨_,rfl,(by first|exact f|exact Zf f _),hfin.out _ rfl⟩)
  ·have t1:decide ((i:Int)<(n:Int))=false:=decide_eq_false (by omega)
   cases x1 <;> cases x2 <;> cases x3 <;> cases x4 <;> cases x5
   all_goals go_wp2_with fail
   all_goals (go_ret;exact⟨_,rfl,(by first|exact f|exact Zf f _),hfin.out _ rfl⟩)
def CD(D M:Nat)(q:Rat):Prop:=∃ z:Int,q=(z:Rat)/(D:Rat)/\z.natAbs<=M
section
variable{D M N:Nat}{p q:Rat}
theorem CD.mono(h:CD D M q)(hM:M<=N):CD D N q:=by
 obtain⟨z,e,hz⟩:=h;exact⟨z,e,Qk hz hM⟩
end
theorem Zvn{rs:List RX}(h:sqE rs=0):Zgq rs=0/\rs.length=n0R rs:=by
 unfold sqE at h
 split at h
 ·rename_i h1
  split at h
  exact⟨h1,by assumption⟩;exact absurd h (by decide)
 rename_i h1;exact absurd h h1
theorem fCmp_ok(na nb na' nb':Bool)(A B A' B':Option Addr)(n c m d n' c' m' d':Nat)(a b:Rat)(w:World)(ha:Fr w na A n c nb B m d a)(hb:Fr w na' A' n' c' nb' B' m' d' b)(sa:Sm a)(sb:Sm b) :
    Calls Tryz.prog 106 #[.agg #[.bool na,.slice A n c,.bool nb,.slice B m d],.agg #[.bool na',.slice A' n' c',.bool nb',.slice B' m' d']] w λe w'=>e=.returned (.tuple #[.int .i64 (cmpQ a b),.int .i64 0])/\Below w.heap.size w w':=by
 rw[<- Zxz];obtain⟨R,hR⟩:∃ R,Zeh (a.num*b.den) (b.num*a.den)=R:=⟨_,rfl⟩;rw[hR];replace hR:=Za hR;have hmx:Tryz.prog.follows .mixedOrders=true:=by kernel_rfl
 have h1:=Za (Zcd sa.1 sb.dn);have h2:=Za (Zcd sb.1 sa.dn);obtain⟨W0,T,J,⟨q0,q1,q2⟩,s0⟩:=Zcu w 41 #[.bool na,.slice A n c,.bool nb,.slice B m d] 41 #[.bool na',.slice A' n' c',.bool nb',.slice B' m' d'] 26 #[.int .i64 0];have hA:=Za (ha.below J);have hD:=Za (hb.below J);clear ha hb sa sb;obtain⟨a0,a1,a2,a3,-⟩:=q0.four;have hq:=Za (QA q0 (QA q1 q2));clear q0 q1 q2
 go_enter_defers Tryz.func106,Tryz.ntmps106
 go_wp2_with fail;refine(Zd9 na nb A B n c m d a W0 hA.out).mono ?_;rintro e w1 ⟨rfl,y⟩;have O:Below w.heap.size w w1:=J.trans (y.mono J.size);have s1:W0.heap.size<=w1.heap.size:=y.size;replace hA:=Za (hA.out.below y);replace hD:=Za (hD.out.below y);obtain⟨q0,q1,q2⟩:=hq.out;replace q0:=Zd y q0;replace q1:=Zd y q1;replace q2:=Zd y q2;clear T hq y J a0 a1 a2 a3;obtain⟨b0,b1,b2,b3,-⟩:=q1.four;have hq:=Za (QA q0 (QA q1 q2));clear q0 q1 q2;go_wp2_with fail;refine(Zfk w1).mono ?_;rintro e w1 ⟨rfl,rfl⟩;go_wp2_with fail;refine(Zd9 na' nb' A' B' n' c' m' d' b w1 hD.out).mono ?_;rintro e w2 ⟨rfl,C⟩;have hB:=Za (O.trans (C.mono O.size));have sz:=Za hB.out.size;have s2:w1.heap.size<=w2.heap.size:=C.size;replace hA:=Za (hA.out.below C);replace hD:=Za (hD.out.below C);obtain⟨q0,q1,q2⟩:=hq.out;replace q0:=Za (Zd C q0);replace q1:=Za (Zd C q1);replace q2:=Za (Zd C q2);clear hq C O b0 b1 b2 b3;go_wp2_with fail;refine(Zfk w2).mono ?_;rintro e w2 ⟨rfl,rfl⟩;obtain⟨a0,a1,a2,a3,-⟩:=q0.out.four;obtain⟨b0,b1,b2,b3,-⟩:=q1.out.four;go_wp2_with fail
 refine Z0 [10] (λW'=>W'.cell? ⟨w.heap.size,0,none⟩=some (.bool na)/\W'.cell? ⟨w.heap.size,1,none⟩=some (.slice A n c)/\W'.cell? ⟨w.heap.size,2,none⟩=some (.bool nb)/\W'.cell? ⟨w.heap.size,3,none⟩=some (.slice B m d)/\W'.cell? ⟨w.heap.size+1,0,none⟩=some (.bool na')/\W'.cell? ⟨w.heap.size+1,1,none⟩=some (.slice A' n' c')/\W'.cell? ⟨w.heap.size+1,2,none⟩=some (.bool nb')/\W'.cell? ⟨w.heap.size+1,3,none⟩=some (.slice B' m' d')) hmx ⟨a0,a1,a2,a3,b0,b1,b2,b3⟩ (λ_=>?_);refine Zje 4 [0,1,3,4] rfl (by kernel_rfl) ⟨a0,a1,a2,a3,b0,b1,b2,b3⟩ ?_
 iterate 4 (refine tk1 (v:=?_) rfl (Qi ⟨by kernel_rfl,?_⟩) ?_;rotate_left;(· intro W2 hSw;(try dsimp only at hSw);go_simp;try with_reducible rfl);try simp only[Qc,Zgy,Zge,Zgs,putG_a,putG_s,putG_z])
 refine tk0 ?_;refine Ze (i:=2) rfl (by kernel_rfl) (λK hK=>?_);go_simp;refine(Zhh na nb na' nb' A B A' B' n c m d n' c' m' d' a b w2.drew hA.out hD.out h1.out).mono ?_;rintro e w3 ⟨h,nu,U,k1,u,rfl,hU⟩;replace h:=Zr h;replace hU:=Za hU;replace q0:=Za (Zd h q0.out);replace q1:=Za (Zd h q1.out);replace q2:=Za (Zd h q2.out);replace hA:=Za (hA.out.below h);replace hD:=Za (hD.out.below h);replace hB:=Za (hB.out.trans (h.mono sz.out));replace sz:=Za (Qk sz.out h.size);clear a0 a1 a2 a3 b0 b1 b2 b3;obtain⟨a0,a1,a2,a3,-⟩:=q0.out.four;obtain⟨b0,b1,b2,b3,-⟩:=q1.out.four;clear h;refine hK.out _ _ (λ_=>⟨a0,a1,a2,a3,b0,b1,b2,b3⟩) ?_;clear hK K
 try simp only[Qc,Zgy,Zge,Zgs]
 refine Ze (i:=5) rfl (by kernel_rfl) (λK hK=>?_);go_simp;refine(Zhh na' nb' na nb A' B' A B n' c' m' d' n c m d b a w3 hD.out hA.out h2.out).mono ?_;rintro e w4 ⟨o,nv,V,k2,v,rfl,hV⟩;replace hU:=Za (hU.out.below o);replace hV:=Za hV;replace q0:=Za (Zd o q0.out);replace q1:=Za (Zd o q1.out);replace q2:=Za (Zd o q2.out);replace hA:=Za (hA.out.below o);replace hD:=Za (hD.out.below o);replace hB:=Za (hB.out.trans (o.mono sz.out));replace sz:=Za (Qk sz.out o.size);clear a0 a1 a2 a3 b0 b1 b2 b3;obtain⟨a0,a1,a2,a3,-⟩:=q0.out.four;obtain⟨b0,b1,b2,b3,-⟩:=q1.out.four;clear o;refine hK.out _ _ (λ_=>⟨a0,a1,a2,a3,b0,b1,b2,b3⟩) ?_;clear hK K
 try simp only[Qc,Zgy,Zge,Zgs]
 refine Ze (i:=6) rfl (by kernel_rfl) (λK hK=>?_);go_simp;refine(Ztm nu nv U V k1 u k2 v _ _ w4 hU.out hV.out).mono ?_;rw[hR.out];rintro e w5 ⟨rfl,I⟩;replace q0:=Za (Zd I q0.out);replace q1:=Za (Zd I q1.out);replace q2:=Za (Zd I q2.out);replace hA:=Za (hA.out.below I);replace hD:=Za (hD.out.below I);replace hB:=Za (hB.out.trans (I.mono sz.out));replace sz:=Za (Qk sz.out I.size);clear a0 a1 a2 a3 b0 b1 b2 b3;obtain⟨a0,a1,a2,a3,-⟩:=q0.out.four;obtain⟨b0,b1,b2,b3,-⟩:=q1.out.four;clear I;have x0:=q2.out.cell 0;have f0:=q2.out.frozen 0;simp at x0;refine hK.out _ _ (λ_=>⟨a0,a1,a2,a3,b0,b1,b2,b3⟩) ?_;clear hK K
 try simp only[Qc,Zgy,Zge,Zgs]
 refine Zje 3 [7,8,9] rfl (by kernel_rfl) ⟨a0,a1,a2,a3,b0,b1,b2,b3⟩ ?_
 iterate 3 (refine tk1 (v:=?_) rfl (Qi ⟨by kernel_rfl,?_⟩) ?_;rotate_left;(· intro W2 hSw;(try dsimp only at hSw);go_simp;try with_reducible rfl);try simp only[Qc,Zgy,Zge,Zgs,putG_a,putG_s,putG_z])
 refine tk0 ?_;refine Zm (i:=10) rfl (by kernel_rfl) (by kernel_rfl) (λK hK=>?_);go_simp;obtain⟨W6,a4,a5,Y,kW,kB,s6⟩:=Zbr 0 hB.out (by omega) q2.out;rw[a4];refine hK.out _ _ ?_;clear hK K
 try simp only[Qc,Zgy,Zge,Zgs]
 refine Zj (by kernel_rfl) ?_ _;refine Qh ?_;have r4:=Y.cell 0;simp at r4;go_wp2_with fail;refine leaves_cons (f:=147) (args:=#[.pointer (some ⟨w.heap.size+1+1,0,none⟩)]) (by simp) (by simp[go_sem]) ?_;refine(Zgx _ _).mono ?_;rintro e u' w'' ⟨rfl,rfl,rfl⟩;refine⟨.tuple #[.int .i64 R,.int .i64 0],by simp[results,Tryz.results106,go_sem,r4],rfl,a5⟩
section
variable{k n m:Nat}{Q:List (List Rat)}
end
section
variable{A:Option Addr}{n c:Nat}{rs:List RX}{w:World}
end
open Go.RowKit Go.Shelf
attribute [local go_sem] Oper.semAt_some
theorem Zff(z:Int):Rat.divInt z 1=(z:Rat):=by
 have h:=Rat.num_divInt_den ((z:Int):Rat);rw[Rat.num_intCast,Rat.den_intCast]at h;exact h
def Zbd(B0:Nat)(q:Rat)(fr ca mv x0 x1 al as_:Nat)(i:Nat)(v:Value)(w:World):Prop:=
 if i=fr then ∃ A n c,v=.agg #[.bool false,.slice A n c]/\Wd w false A n c 1 else Zu B0 q ca mv x0 x1 al as_ i v w
theorem Zhi{B0:Nat}{q:Rat}{fr ca mv x0 x1 al as_ i:Nat}{v:Value}{w w':World}(hb:Below w.heap.size w w')(h:Zbd B0 q fr ca mv x0 x1 al as_ i v w):Zbd B0 q fr ca mv x0 x1 al as_ i v w':=by
 unfold Zbd at h ⊢
 split at h
 ·rename_i h1;rw[if_pos h1]
  obtain⟨A,n,c,e,hf⟩:=h;exact⟨A,n,c,e,hf.below hb⟩
 ·rename_i h1;rw[if_neg h1]
  exact Zdl hb h
theorem Zj0{C m:Nat}:∀ (f c r:Nat) (Z:List (List Int)) (ng:Bool) (last:Int),okZ C m f c r Z last->BdZ C m (Zan f c r Z ng last).1
 | 0,_,_,_,_,_,h=>h.1
 | f+1,c,r,Z,ng,last,h=>by
  by_cases h0:r=Z.length;rw[Zmv h0];exact(Zwt h).1
  ·obtain⟨q,hq⟩:∃ q,Za0 (λi=>Zae Z i c == 0) Z.length Z.length r=q:=⟨_,rfl⟩
   by_cases hn:q=Z.length;rw[Zlu h0 hq hn];exact Zj0 f _ _ _ _ _ (Zq7 h h0 hq hn);rw[Zl9 h0 hq hn];exact Zj0 f _ _ _ _ _ (Zq4 h h0 hq hn)
theorem Zus{X:Nat->Nat->Rat}{n m k:Nat}(h:k<n):(Zdz X n m).drop (n-(k+1))=((Qn (m-n)).map λc=>X (n-1-k) (n+c))::(Zdz X n m).drop (n-k):=by
 unfold Zdz;have hl:n-(k+1)<((Qn n).map λi=>(Qn (m-n)).map λc=>X i (n+c)).length:=by rw[Qd,Qj];omega
 rw[List.drop_eq_getElem_cons hl,show n-(k+1)+1=n-k by omega];congr 1;rw[List.getElem_map,List.getElem_range,show n-(k+1)=n-1-k by omega]
theorem Zw2{X:Nat->Nat->Rat}{n m j t:Nat}(hj:j<n)(ht:t<m-n){L:List RF}{i:Nat}(hL:L.map RF.q=(Zdz X n m).drop (i+1))(hij:i<j){y:RF}(hy:L[j-(i+1)]?=some y):y.q.length=m-n/\y.q[t]?.getD 0=X j (n+t):=by
 have h1:(L.map RF.q)[j-(i+1)]?=some y.q:=by rw[Qf,hy];rfl
 rw[hL,List.getElem?_drop,show i+1+(j-(i+1))=j by omega]at h1;unfold Zdz at h1;rw[Qf,Qy hj]at h1;simp only[Option.map_some,Option.some.injEq]at h1;rw[<- h1];refine⟨by simp,?_⟩;rw[Qf,Qy ht];rfl
theorem Zw3(A:Option Addr)(n c m:Nat)(Q:List (List Rat))(w:World)(h:MFL w A n c Q)(hn0:0<n)(hn9:n<=900)(hnm:n<m)(hm9:m<=900)(hm:∀ i,i<n->(Q[i]?.getD []).length=m)(j0:okZ (pw 200) m n 0 0 (Z6 Q) 1)(hfin:Zqd Q n m)(hrk:(Zan n 0 0 (Z6 Q) false 1).2.1=n)
    (X:Nat->Nat->Rat) (hX:Ze1 (λi j=>(Zae (Zan n 0 0 (Z6 Q) false 1).1 i j:Rat)) X n m) :
    Calls Tryz.prog 82 #[.slice A n c,.int .i64 n] w λe w'=>∃ gO L,e=.returned (.tuple #[.slice (some ⟨gO,0,none⟩) n n,.bool true])/\Below w.heap.size w w'/\w.heap.size<=gO/\MatB 35 41 w' gO L/\L.map RF.q=Zdz X n m/\∀ r ∈ L,w.heap.size<=r.g:=by
 have hmx:Tryz.prog.follows .mixedOrders=true:=by kernel_rfl
 have z3:(150:TypeId)≠39:=by decide
 have h7:(35:TypeId)≠41:=by decide
 have p3:Hid (NoT 3 25 149 150 39 41):=Za (by unfold NoT;decide);have A1:Hid (NoT 3 25 149 150 39 35):=Za (by unfold NoT;decide);obtain⟨iF,hi,A9,A4,w3⟩:=info_parts Zdg;obtain⟨iS,ki,x8,y6,w9⟩:=info_parts Zeu;have A7:=Za h.1;obtain⟨W0,y4,h6,q0,s0⟩:=Zax w 3 #[.int .i64 n];replace h:=h.below h6;obtain⟨FIN,e8⟩:∃ X,Zan n 0 0 (Z6 Q) false 1=X:=⟨_,rfl⟩;rw[e8]at hrk hX;obtain⟨E',rk,ng,la⟩:=FIN;have u8:rk=n:=hrk;subst u8;replace hX:Ze1 (λi j=>(Zae E' i j:Rat)) X rk m:=hX;obtain⟨n,hn⟩:∃ n,n=rk:=⟨_,rfl⟩;subst hn;replace e8:=Za e8;replace j0:=Za j0;replace hX:=Za hX;refine(callsIn_wide (n:=9)).1 ?_;refine callsIn_of_wp_marks Tryz.func82 rfl trivial ?_ rfl;simp only[Tryz.ntmps82,QB,Qs,QF,Nat.reduceAdd,Nat.reduceSub,Qv,Qw,QC,Qz,Qt,QE];refine wpIn_wide.2 ?_;go_wp2_with fail;refine(Zog A n c m Q W0 h hn9 hm (by omega) hm9 hfin.1 hfin.2).mono ?_;rintro e w1 ⟨v,vb,L,rfl,i0,hM,hq,hP,l2⟩;obtain⟨vA,vc,rfl,r7,q5,-⟩:=hP.poly_at;rw[Qd,Qj]at r7 hP l2 ⊢;unfold maxLen at q5;have d9:=congrArg QD hq;rw[Qd]at d9;unfold Z6 at d9;rw[Qd,A7.out]at d9;obtain⟨go,cap,rfl,j4,o2,u5,o8,v7⟩:=hM.mat z3 (λe=>by rw[e]at d9;simp at d9;omega);rw[d9]at j4 ⊢;obtain⟨g3,m1⟩:∃ g,w1.heap.size=g:=⟨_,rfl⟩
 obtain⟨V,hV,e3,qv,kW,kB,sV⟩:=Zt 152 #[.slice (some ⟨go,0,none⟩) n cap,.slice vA n vc] (Qa w1.heap.size w1) (Qb _);have q8:=o8.below e3;have i7:=(Zd i0 q0).below e3 (Zd i0 q0).lt;rw[m1]at qv;obtain⟨x0,x1,-,-⟩:=qv.two;have nV:=i7.cell 0;simp at nV;replace d9:=Za d9;have r6:Hid (w.heap.size<W0.heap.size):=Za (by omega);have i1:Hid (Below W0.heap.size W0 V):=Za (i0.trans (e3.mono i0.size))
 have e9:∀ k,(k=go \/ k ∈ L.map RZ.g)->W0.heap.size<=k:=λk hk=>by
  rcases hk with rfl|hk;exact u5
  ·obtain⟨s,hs,rfl⟩:=List.mem_map.1 hk
   exact v7 s hs
 have g5:∀ k,(k=go \/ k ∈ L.map RZ.g)->k<g3:=λk hk=>by
  obtain⟨t,cs,hb,-⟩:=o8.boxes k hk;rw[<- m1];exact hb.lt
 replace e9:=Za e9;replace g5:=Za g5;replace qv:=Za qv;replace i7:=Za i7;clear hM o8 kW kB sV l2 hP h y4 u5 v7 q0 i0 e3;go_wp2_with fail;(try rw[m1]);(try rw[hV]);refine(Zid go n cap L (.slice vA n vc) m n V q8 d9.out hn0 hn9 j4 o2 (by omega) hm9 (by rw[hq];exact j0.out)).mono ?_;rw[hq,e8.out];rintro e w2 ⟨L2,ln,lA,lk,lc,rfl,x7,l3,-,g8,q2,j8⟩;replace g8:L2.map RZ.q=E':=g8;clear hV x0 x1 nV;have l7:¬ (g3=go \/ g3 ∈ L.map RZ.g):=λh=>by have:=g5.out g3 h;omega
 have q3:=j8.blk qv.out l7;have o0:=j8.blk i7.out (λh=>by have:=e9.out _ h;have:=r6.out;omega);have m0:Below W0.heap.size W0 w2:=i1.out.trans (j8.to_below e9.out i1.out.size);obtain⟨g6,z4⟩:∃ g,w2.heap.size=g:=⟨_,rfl⟩;obtain⟨V2,w0,e6,z5,kW,kB,sV⟩:=Zt 39 #[.bool ln,.slice lA lk lc] (Qa w2.heap.size w2) (Qb _);have c8:=q3.below e6 q3.lt;have c9:=o0.below e6 o0.lt;have i8:=q2.below e6;have f9:=Za (m0.trans (e6.mono m0.size));obtain⟨y0,y1,-,-⟩:=c8.two;have w6:=c9.cell 0;simp at w6;have t1:decide ((n:Int)<(n:Int))=false:=by simp
 obtain⟨gO,o9⟩:∃ g,V2.heap.size=g:=⟨_,rfl⟩;obtain⟨V3,m9⟩:∃ Y,V2.alloc (.cells (Zx (Qm n Zaz)) 35)=Y:=⟨_,rfl⟩;have c2:Below V2.heap.size V2 V3:=by rw[<- m9];exact(Qa _ _).alloc (Qb _) _
 have o6:Blk V3 gO 35 (Zx (Qm n Zaz)):=by rw[<- m9,<- o9];exact Qr _ _ _
 obtain⟨gX,q6⟩:∃ g,V3.heap.size=g:=⟨_,rfl⟩;obtain⟨V4,y7,f6,m2,-,-,s4⟩:=Zt 25 #[.slice (some ⟨gO,0,none⟩) n n] (Qa V3.heap.size V3) (Qb _);rw[q6]at m2;have y5:=Zpc (P:=Tryz.prog) 25 35 Tryz.underlying25 ki x8 y6 w9 (n:Int) n rfl (by omega) V2;rw[m9,o9]at y5;have l0:=(c8.below c2 c8.lt).below f6 (c8.below c2 c8.lt).lt;have i4:=(c9.below c2 c9.lt).below f6 (c9.below c2 c9.lt).lt;have l6:=(i8.below c2).below f6;have t8:=o6.below f6 o6.lt;obtain⟨z0,z1,-,-⟩:=l0.two;have w7:=i4.cell 0;simp at w7;have bc:(n:Int)<=(cap:Int):=by omega
 obtain⟨gB,q1⟩:∃ g,V4.heap.size=g:=⟨_,rfl⟩;obtain⟨V5,p6⟩:∃ Y,V4.alloc (.cells #[.slice (some ⟨go,0,none⟩) n cap] 149)=Y:=⟨_,rfl⟩;have J:Below V4.heap.size V4 V5:=by rw[<- p6];exact(Qa _ _).alloc (Qb _) _
 have h8:EnvK 3 25 149 150 39 V5 w.heap.size gX gO gB go n (some ⟨go,0,none⟩) cap L2:=⟨Zd J i4,Zd J m2,by rw[<- p6,<- q1];exact Qr _ _ _,l6.below J⟩;have n8:OutK 35 41 V5 W0.heap.size gO n []:=⟨by rw[Qe,QG];exact Zd J t8,λr hr=>(by cases hr),List.nodup_nil⟩
 have T:Below W0.heap.size W0 V5:=by
  have hs:=f9.out.size;exact f9.out.trans (((c2.trans (f6.mono c2.size)).trans (J.mono (c2.trans (f6.mono c2.size)).size)).mono hs)
 have z8:W0.heap.size<=gO:=by rw[<- o9];exact f9.out.size
 replace h8:=Za h8;replace n8:=Za n8;replace T:=Za T;replace i8:=Za i8;clear q8 j8 m0 x7 q3 o0 kW kB sV e9 g5 e6 l6 c2 f6 J o6 t8 c8 c9 q2 m2 z5 l0 i4 l7 i7 qv i1;go_wp2_with fail;(try rw[z4]);(try rw[w0]);(try rw[q6]);(try rw[y7]);refine(Zv3 (some ⟨go,0,none⟩) n cap V4).mono ?_;rintro e w5 ⟨rfl,v6⟩;rw[p6]at v6;subst v6;rw[q1];go_wp2_with fail;refine(wpIn_wide (n:=9)).1 ?_
 refine Zm4 (by omega) (gf:=177) (lb:=#[.pointer (some ⟨gB,0,none⟩)]) rfl (enters_of Tryz.func177 (by kernel_rfl) rfl)
  (Zwf 8 (by omega) gB n cap (some ⟨go,0,none⟩) (L2.map RZ.rs) V5 (by rw[h8.out.2.2.1.cell];rfl) (h8.out.sl l3 j4 o2)) KpR.trans (λW l o o' _ h hc _=>KpR.put W l o o' h hc) (Qa _ _) (λ_=>rfl)
  (λk W=>(EnvK 3 25 149 150 39 W w.heap.size gX gO gB go n (some ⟨go,0,none⟩) cap L2/\∃ L:List RF,L.length=k/\L.map RF.q=(Zdz X n m).drop (n-k)/\OutK 35 41 W W0.heap.size gO (n-k) L)/\Below W0.heap.size W0 W)
  (OwnFrom.and (λk W W' row hs hg hr=>by
   obtain⟨h1,L,h2,h3,h4⟩:=hs;exact⟨h1.own hg (λr e=>(hr r e).2),L,h2,h3,h4.own hg (λr e=>(hr r e).2)⟩) (ownFrom_below (Qb _) T.out.size))
  ⟨⟨h8.out,[],rfl,by rw[Qe,Nat.sub_zero,List.drop_eq_nil_of_le];unfold Zdz;rw[Qd,Qj];exact Qb _,n8.out⟩,T.out⟩
  ?a1 ?assign ?body ?done
 case assign =>
  intro l k W K hk hK;dsimp only[Zmt]
  gi_wp2
  exact hK
 case body =>
  intro l k W hk hI;obtain⟨⟨hE,L,r8,g9,hO⟩,h5⟩:=hI;obtain⟨i,p2⟩:∃ i,n-1-k=i:=⟨_,rfl⟩;have u4:i<n:=by omega
  obtain⟨x,hx⟩:=Zal (L:=L2) (i:=i) (by omega);have n1:rsAt (L2.map RZ.rs) i=x.rs:=by unfold rsAt;rw[Qf,hx];rfl
  have i9:x.q.length=m:=by
   have h1:=(Zj0 n 0 0 (Z6 Q) false 1 j0.out).1;rw[e8.out]at h1;have h2:E'[i]?=some x.q:=by rw[<- g8,Qf,hx];rfl
   have h3:=h1 i (List.getElem?_eq_some_iff.1 h2).1;rw[h2]at h3;exact h3
  (try dsimp only);rw[p2,n1];dsimp only[RS.val,RZ.rs];rw[i9];rw[show n-k=i+1 by omega]at hO g9
  have A2:n-(k+1)=i:=by omega
  have r4:Hid (∀ r ∈ L,r.g<W.heap.size):=Za (λr hr=>(hO.2.1 r hr).1.1.lt);have t9:W0.heap.size<=W.heap.size:=h5.size
  have k8:Hid (BunK 3 25 149 150 39 35 41 w.heap.size gX gO gB go n (some ⟨go,0,none⟩) cap L2 W i Zaz [] L W):=Za ⟨hE,by
      have h1:=hO.1;rw[List.replicate_succ',List.append_assoc]at h1;exact h1,OwnF.nil _ _ _,λr hr=>(hO.2.1 r hr).1.1,QH _ _⟩
  obtain⟨d1,d2,d3,d4,d5⟩:=hX.out;replace d1:=Za d1;replace d2:=Za d2;replace d3:=Za d3;replace d4:=Za d4;replace d5:=Za d5
  have f7:Hid (∀ j,x.q[j]?.getD 0=Zae E' i j):=Za (λj=>by
   rw[<- g8];unfold Zae;rw[Qf,hx];rfl)
  have nW:=hE.1.cell 0;simp at nW;replace hO:=Za hO;replace hE:=Za hE;replace g9:=Za g9;replace h5:=Za h5;replace p2:=Za p2;replace n1:=Za n1
  gi_wp2_with fail
  clear nW
  gi_loopw [13] (λkv wr=>∃ (t:Nat) (cur:RS),kv=.int .i64 ((n:Int)+(t:Int))/\t<=m-n/\BunK 3 25 149 150 39 35 41 w.heap.size gX gO gB go n (some ⟨go,0,none⟩) cap L2 W i cur ((Qn t).map λc=>X i (n+c)) L wr) (λkv _=>(m-intOf kv).toNat)
  case atStart=>exact⟨0,Zaz,by go_num,Qu _,k8.out⟩
  case round =>
   clear k8;obtain⟨t,cur,rfl,C2,b0⟩:=hrel;by_cases hlt:t<m-n
   ·skip
    have t2:decide ((n:Int)+(t:Int)<(m:Int))=true:=decide_eq_true (by omega);have bnt:(0:Int)<=(n:Int)+(t:Int):=by omega
    have bnm:(n:Int)+(t:Int)<(m:Int):=by omega
    obtain⟨zn,zA,zk,zc,c0,c1,hz⟩:=(b0.1.2.2.2.row hx).1.at_ (i:=n+t) (by rw[i9];omega);rw[f7.out]at hz;have nc:=b0.1.1.cell 0;simp at nc;have e1:((n:Int)+(t:Int)).toNat=n+t:=by omega
    replace b0:=Za b0
    gi_wp2_with fail
    have O:Hid (∀ wx,Below wr.heap.size wr wx->wx.cell? ⟨x.g,(n+t)*2,none⟩=some (.bool zn)/\wx.cell? ⟨x.g,(n+t)*2+1,none⟩=some (.slice zA zk zc)):=Za (λwx u=>⟨Zb u c0,Zb u c1⟩);have U:Below wr.heap.size wr wr.drew:=Zf (Qa _ _) 1;refine Zva [] hmx (by kernel_rfl) O U (λhxs=>?_);refine Zje 4 [0,1,2,3] rfl (by kernel_rfl) (O.out _ U) ?_
    iterate 4 (refine tk1 (v:=?_) rfl (Qi ⟨by kernel_rfl,?_⟩) ?_;rotate_left;(· intro W2 hSw;(try dsimp only at hSw);go_simp;try with_reducible rfl);try simp only[Qc,Zgy,Zge,Zgs,putG_a,putG_s,putG_z])
    refine tk0 ?_;refine Za1 [(4,56),(5,57),(6,51),(7,58),(9,14)] (λi=>match i with|6=>[8]|_=>[]) [(4,56),(5,57),(6,51),(8,59),(7,58),(9,14)] (Zbd wr.heap.size ((Zae E' i (n+t)):Rat) 4 5 6 7 8 9 8) 2 (by kernel_rfl) (λ_ _ _ _ _ hb h=>Zhi hb h) (λwx h=>O.out _ (U.trans (h.mono U.size))) ?hop1 ?hfin1
    case hop1 =>
     intro p hp;simp only[Qp,Qo,or_false]at hp;simp only[Qg,Qe,Zam,Qc,Zgy,Zge,Zgs];rcases hp with rfl|rfl|rfl|rfl|rfl
     ·intro ν wx hb hP
      refine Zn (i:=4) rfl (λK hK=>?_);go_simp;refine(Zbq 1 wx (by decide) (by decide)).mono ?_;rintro e w5 ⟨J,d0,D0,e0,f0,rfl,hN⟩;obtain rfl:d0=false:=hN.1;exact hK.out _ _ ⟨_,rfl,(by simp only[Zbd];exact⟨_,_,_,rfl,hN⟩),J,trivial⟩
     ·intro ν wx hb hP
      have u:=U.trans (hb.mono U.size);have h0:=hP (4,56) (by simp) (by kernel_rfl);simp only[Zbd]at h0;obtain⟨D0,e0,f0,hν,hN⟩:=h0;rw[hν];refine Zn (i:=5) rfl (λK hK=>?_);go_simp;refine(Zf9 zn zA D0 zk zc e0 f0 (Zae E' i (n+t)) 1 wx (hz.below u) hN (by decide)).mono ?_;rintro e w5 ⟨J,b6,A5,k5,c5,b8,B5,m5,d5,rfl,I⟩;rw[Zff]at I;exact hK.out _ _ ⟨_,rfl,(by simp only[Zbd,Zu];exact⟨_,_,_,_,_,_,_,_,rfl,I⟩),J,trivial⟩
     ·intro ν wx hb hP
      have h0:=hP (5,57) (by simp) (by kernel_rfl);simp only[Zbd,Zu]at h0;obtain⟨b6,A5,k5,c5,b8,B5,m5,d5,hν,I⟩:=h0;rw[hν];refine Zn (i:=6) rfl (λK hK=>?_);go_simp;refine hK.out _ _ ⟨_,rfl,(by simp only[Zbd,Zu];exact⟨_,_,_,_,_,_,_,_,rfl,I⟩),Qa _ _,?_⟩;exact⟨_,.int .i64 0,rfl,Qi ⟨by kernel_rfl,λW2 _=>by go_simp⟩,by simp[Zbd,Zu],trivial⟩
     ·intro ν wx hb hP
      have h0:=hP (6,51) (by simp) (by kernel_rfl);simp only[Zbd,Zu]at h0;obtain⟨b6,A5,k5,c5,b8,B5,m5,d5,hν,I⟩:=h0;rw[hν];refine Zn (i:=7) rfl (λK hK=>?_);go_simp;exact hK.out _ _ ⟨_,rfl,(by simp only[Zbd,Zu];exact⟨_,_,_,_,_,_,_,_,rfl,I⟩),Qa _ _,trivial⟩
     ·intro ν wx hb hP
      refine Zn (i:=9) rfl (λK hK=>?_);go_simp;exact hK.out _ _ ⟨_,rfl,(by simp only[Zbd,Zu];exact⟨_,rfl,hb.size,Qr _ _ _⟩),(Qa _ _).alloc (Qb _) _,trivial⟩
    case hfin1 =>
     intro ν wx hb hP;have h9:=hP (4,56) (by simp);have h0:=hP (5,57) (by simp);have h1:=hP (6,51) (by simp);have h2:=hP (7,58) (by simp);have h3:=hP (8,59) (by simp);have h4:=hP (9,14) (by simp);simp only[Zbd,Zu]at h9 h0 h1 h2 h4;obtain⟨y0,y1,y2,h9,-⟩:=h9;obtain⟨a0,a1,a2,a3,a4,a5,a6,a7,h0,-⟩:=h0;obtain⟨p5,m7,o4,n5,n7,p7,p4,m8,h1,-⟩:=h1;obtain⟨ssn,n4,ssk,ssc,ssm,n9,ssj,ssd,h2,ssf⟩:=h2;obtain⟨gss,h4,kv,qv⟩:=h4;simp only[Qg,Qe,Zam,Qc,Zgy,Zge,Zgs];rw[h9,h0,h1,h2,(show ν 59=Value.int .i64 0 by simpa [Zbd,Zu]using h3),h4];clear h9 h0 h1 h2 h3 h4 hP ν;have u:=U.trans (hb.mono U.size);have C:=qv.four;have b1:wr.heap.size<=gss:=kv;refine(Zaa ssn n4 ssk ssc ssm n9 ssj ssd u b1 qv).elim (λZss hq=>?_);have c0:=C.1;have g0:=C.2.1;have g1:=C.2.2.1;have c3:=C.2.2.2.1;have f0:=C.2.2.2.2.1;have f1:=C.2.2.2.2.2.1;have f2:=C.2.2.2.2.2.2.1;have f3:=C.2.2.2.2.2.2.2;have hZ:=hq.1;refine Ze (i:=10) rfl (by kernel_rfl) (λK hK=>?_);go_simp;(try rw[hZ]);refine hK.out _ _ (λ_=>O.out _ hq.2.1) ?_;clear hK K
     try simp only[Qc,Zgy,Zge,Zgs]
     refine Zgf 1 [11] rfl (by kernel_rfl) (O.out _ hq.2.1) ?_
     (refine tk1 (v:=?_) rfl (Qi ⟨by kernel_rfl,?_⟩) ?_;rotate_left;(· intro W2 _;go_simp;try with_reducible rfl);try simp only[Qc,Zgy,Zge,Zgs,putG_a,putG_s,putG_z])
     refine tk0 ?_;refine Zj (by kernel_rfl) ?_ _;refine Qh ?_;have n2:=hq.2.1;have ssb:=Za hq.2.2.1;have i2:Hid (wr.heap.size<=gss):=Za b1;replace ssf:=Za (Fr.keep ssf hq.2.2.2.1);clear hq hZ c0 g0 g1 c3 f0 f1 f2 f3 C qv kv b1 u hb U O hxs;have e3:=b0.out.below n2;have g7:Fr Zss ssn n4 ssk ssc ssm n9 ssj ssd (upS (λi j=>(Zae E' i j:Rat)) X i (n+t) (i+1)):=by rw[Zmx _ _ _ _ _ (Qb _)];exact ssf.out
     have k9:Hid (∀ r ∈ L,r.g≠gss):=Za (λr hr e=>by
      have a1:=r4.out r hr;have a2:=b0.out.2.2.2.2.size;have a3:=i2.out;omega)
     have i5:Hid (cur.val.ownBlock≠some gss):=Za (λe=>by
      obtain⟨cs,a1,-,-⟩:=b0.out.2.2.1.ownBlk _ e;have a2:=a1.lt;have a3:=i2.out;omega)
     have l5:Hid (W.heap.size<=gss):=Za (Qk b0.out.2.2.2.2.size i2.out);have B4:Hid (∀ k,k=gss->∃ t cs,Blk Zss k t cs/\NoLimb cs):=Za (λk hk=>⟨_,_,hk▸ssb.out,Zfq _ _ _ _ _ _ _ _⟩);have x5:Hid (∀ W',Kept (λk=>k=gss) Zss W'->BunK 3 25 149 150 39 35 41 w.heap.size gX gO gB go n (some ⟨go,0,none⟩) cap L2 W i cur ((Qn t).map λc=>X i (n+c)) L W'):=Za (λW' hk=>e3.turn p3.out h7 ssb.out (Zfq _ _ _ _ _ _ _ _) k9.out i5.out l5.out hk);replace g7:=Za g7;replace e3:=Za e3;clear ssf c0 c1 nc hz b0 e3
     gi_wp2_with fail
     gi_loopw [16] (λjv wx=>∃ (j:Nat) (sn:Bool) (sA:Option Addr) (sk sc:Nat) (sm:Bool) (sB:Option Addr) (sj sd:Nat),jv=.int .i64 j/\i+1<=j/\j<=n/\Blk wx gss 41 #[.bool sn,.slice sA sk sc,.bool sm,.slice sB sj sd]/\Fr wx sn sA sk sc sm sB sj sd (upS (λi j=>(Zae E' i j:Rat)) X i (n+t) j)/\Kept (λk=>k=gss) Zss wx) (λjv _=>(n-intOf jv).toNat)
     case atStart=>exact⟨i+1,ssn,n4,ssk,ssc,ssm,n9,ssj,ssd,by go_num,Qb _,by omega,ssb.out,g7.out,QH _ _⟩
     case round =>
      clear g7 ssb;obtain⟨j,sn,sA,sk,sc,sm,sB,sj,sd,rfl,C3,C7,qs,e7,f4⟩:=hrel;have T:=x5.out _ f4;by_cases hjn':j<n
      ·skip
       have t3:decide ((j:Int)<(n:Int))=true:=decide_eq_true (by omega);have C8:(0:Int)<=(j:Int):=by omega
       have bjn:(j:Int)<(n:Int):=by omega
       have bjm:(j:Int)<(m:Int):=by omega
       have ej:((j:Nat):Int).toNat=j:=by omega
       obtain⟨zn,zA,zk,zc,c0,c1,hz⟩:=(T.1.2.2.2.row hx).1.at_ (i:=j) (by rw[i9];omega);rw[f7.out]at hz;have nc:=T.1.1.cell 0;simp at nc;replace T:=Za T;replace qs:=Za qs;replace e7:=Za e7;replace f4:=Za f4
       gi_wp2_with fail
       have c4:Hid (∀ wx,Below wr.heap.size wr wx->wx.cell? ⟨x.g,(j)*2,none⟩=some (.bool zn)/\wx.cell? ⟨x.g,(j)*2+1,none⟩=some (.slice zA zk zc)):=Za (λwx u=>⟨Zb u c0,Zb u c1⟩);have a8:Below wr.heap.size wr wr.drew:=Zf (Qa _ _) 1;refine Zva [] hmx (by kernel_rfl) c4 a8 (λhxs=>?_);refine Zje 4 [0,1,2,3] rfl (by kernel_rfl) (c4.out _ a8) ?_
       iterate 4 (refine tk1 (v:=?_) rfl (Qi ⟨by kernel_rfl,?_⟩) ?_;rotate_left;(· intro W2 hSw;(try dsimp only at hSw);go_simp;try with_reducible rfl);try simp only[Qc,Zgy,Zge,Zgs,putG_a,putG_s,putG_z])
       refine tk0 ?_;refine Za1 [(4,72),(5,73),(6,67),(7,74),(9,17)] (λi=>match i with|6=>[8]|_=>[]) [(4,72),(5,73),(6,67),(8,75),(7,74),(9,17)] (Zbd wr.heap.size ((Zae E' i j):Rat) 4 5 6 7 8 9 8) 2 (by kernel_rfl) (λ_ _ _ _ _ hb h=>Zhi hb h) (λwx h=>c4.out _ (a8.trans (h.mono a8.size))) ?hop2 ?hfin2
       case hop2 =>
        intro p hp;simp only[Qp,Qo,or_false]at hp;simp only[Qg,Qe,Zam,Qc,Zgy,Zge,Zgs];rcases hp with rfl|rfl|rfl|rfl|rfl
        ·intro ν wx hb hP
         refine Zn (i:=4) rfl (λK hK=>?_);go_simp;refine(Zbq 1 wx (by decide) (by decide)).mono ?_;rintro e w5 ⟨J,d0,D0,e0,f0,rfl,hN⟩;obtain rfl:d0=false:=hN.1;exact hK.out _ _ ⟨_,rfl,(by simp only[Zbd];exact⟨_,_,_,rfl,hN⟩),J,trivial⟩
        ·intro ν wx hb hP
         have u:=a8.trans (hb.mono a8.size);have h0:=hP (4,72) (by simp) (by kernel_rfl);simp only[Zbd]at h0;obtain⟨D0,e0,f0,hν,hN⟩:=h0;rw[hν];refine Zn (i:=5) rfl (λK hK=>?_);go_simp;refine(Zf9 zn zA D0 zk zc e0 f0 (Zae E' i j) 1 wx (hz.below u) hN (by decide)).mono ?_;rintro e w5 ⟨J,b6,A5,k5,c5,b8,B5,m5,d5,rfl,I⟩;rw[Zff]at I;exact hK.out _ _ ⟨_,rfl,(by simp only[Zbd,Zu];exact⟨_,_,_,_,_,_,_,_,rfl,I⟩),J,trivial⟩
        ·intro ν wx hb hP
         have h0:=hP (5,73) (by simp) (by kernel_rfl);simp only[Zbd,Zu]at h0;obtain⟨b6,A5,k5,c5,b8,B5,m5,d5,hν,I⟩:=h0;rw[hν];refine Zn (i:=6) rfl (λK hK=>?_);go_simp;refine hK.out _ _ ⟨_,rfl,(by simp only[Zbd,Zu];exact⟨_,_,_,_,_,_,_,_,rfl,I⟩),Qa _ _,?_⟩;exact⟨_,.int .i64 0,rfl,Qi ⟨by kernel_rfl,λW2 _=>by go_simp⟩,by simp[Zbd,Zu],trivial⟩
        ·intro ν wx hb hP
         have h0:=hP (6,67) (by simp) (by kernel_rfl);simp only[Zbd,Zu]at h0;obtain⟨b6,A5,k5,c5,b8,B5,m5,d5,hν,I⟩:=h0;rw[hν];refine Zn (i:=7) rfl (λK hK=>?_);go_simp;exact hK.out _ _ ⟨_,rfl,(by simp only[Zbd,Zu];exact⟨_,_,_,_,_,_,_,_,rfl,I⟩),Qa _ _,trivial⟩
        ·intro ν wx hb hP
         refine Zn (i:=9) rfl (λK hK=>?_);go_simp;exact hK.out _ _ ⟨_,rfl,(by simp only[Zbd,Zu];exact⟨_,rfl,hb.size,Qr _ _ _⟩),(Qa _ _).alloc (Qb _) _,trivial⟩
       case hfin2 =>
        intro ν wx hb hP;have h9:=hP (4,72) (by simp);have h0:=hP (5,73) (by simp);have h1:=hP (6,67) (by simp);have h2:=hP (7,74) (by simp);have h3:=hP (8,75) (by simp);have h4:=hP (9,17) (by simp);simp only[Zbd,Zu]at h9 h0 h1 h2 h4;obtain⟨y0,y1,y2,h9,-⟩:=h9;obtain⟨a0,a1,a2,a3,a4,a5,a6,a7,h0,-⟩:=h0;obtain⟨p5,m7,o4,n5,n7,p7,p4,m8,h1,-⟩:=h1;obtain⟨ccn,o5,cck,ccc,ccm,o7,ccj,ccd,h2,ccf⟩:=h2;obtain⟨gcc,h4,kv,qv⟩:=h4;simp only[Qg,Qe,Zam,Qc,Zgy,Zge,Zgs];rw[h9,h0,h1,h2,(show ν 75=Value.int .i64 0 by simpa [Zbd,Zu]using h3),h4];clear h9 h0 h1 h2 h3 h4 hP ν;have u:=a8.trans (hb.mono a8.size);have C:=qv.four;have b1:wr.heap.size<=gcc:=kv;refine(Zaa ccn o5 cck ccc ccm o7 ccj ccd u b1 qv).elim (λZcc hq=>?_);have c0:=C.1;have g0:=C.2.1;have g1:=C.2.2.1;have c3:=C.2.2.2.1;have f0:=C.2.2.2.2.1;have f1:=C.2.2.2.2.2.1;have f2:=C.2.2.2.2.2.2.1;have f3:=C.2.2.2.2.2.2.2;have hZ:=hq.1;refine Ze (i:=10) rfl (by kernel_rfl) (λK hK=>?_);go_simp;(try rw[hZ]);refine hK.out _ _ (λ_=>c4.out _ hq.2.1) ?_;clear hK K
        try simp only[Qc,Zgy,Zge,Zgs]
        refine Zgf 1 [11] rfl (by kernel_rfl) (c4.out _ hq.2.1) ?_
        (refine tk1 (v:=?_) rfl (Qi ⟨by kernel_rfl,?_⟩) ?_;rotate_left;(· intro W2 _;go_simp;try with_reducible rfl);try simp only[Qc,Zgy,Zge,Zgs,putG_a,putG_s,putG_z])
        refine tk0 ?_;refine Zj (by kernel_rfl) ?_ _;refine Qh ?_;have b4:=hq.2.1;have ccb:=Za hq.2.2.1;have B8:Hid (wr.heap.size<=gcc):=Za b1;replace ccf:=Za (Fr.keep ccf hq.2.2.2.1);clear hq hZ c0 g0 g1 c3 f0 f1 f2 f3 C qv kv b1 u hb a8 c4 hxs;have b2:=T.out.below b4;have k7:=f4.out.below b4;have b9:=Zd b4 qs.out;have b5:=e7.out.below b4;obtain⟨y,hy⟩:=Zal (L:=L) (i:=j-(i+1)) (by have:=congrArg QD g9.out;rw[Qd,List.length_drop]at this;unfold Zdz at this;rw[Qd,Qj]at this;omega);obtain⟨l9,A8⟩:=Zw2 hjn' hlt g9.out (by omega) hy;obtain⟨⟨-,y3,w4⟩,-⟩:=hO.out.2.1 y (Qx hy);rw[l9]at y3;unfold maxLen at w4
        have s8:(Qm i Zaz++cur::L.map RF.rs)[j]?=some y.rs:=by
         rw[Qq (by rw[Ql];omega),Ql,show j-i=j-(i+1)+1 by omega,List.getElem?_cons_succ,Qf,hy];rfl
        have k0:=b2.1.1.cell 0;simp at k0;have k1:=b2.1.2.1.cell 0;simp at k1;have k2:=b2.2.1.cell j;rw[Zbv s8]at k2;simp only[RF.rs]at k2;rw[l9]at k2;obtain⟨n3,A3,k3,c3,m3,B3,j3,r5,r0,r1,r2,r3,n0⟩:=(b2.2.2.2.1 y (Qx hy)).at_ (i:=t) (by rw[l9];exact hlt);rw[A8]at n0;obtain⟨u0,u1,u2,u3,-⟩:=ccb.out.four;have j5:=(d3.out i j).sm (by decide) (by decide);have k4:=(d4.out j (n+t)).sm (by decide) (by decide);have y9:Hid (SmN 600 600 ((Zae E' i j:Rat)*X j (n+t))):=Za ((d3.out i j).mulN (d4.out j (n+t)));have C5:(0:Int)<=(t:Int):=by omega
        have btm:(t:Int)<((m-n:Nat):Int):=by omega
        have et:(n:Int)+(t:Int)-(n:Int)=(t:Int):=by omega
        have C1:((t:Nat):Int).toNat=t:=by omega
        have B9:IntKind.i64.wrap (t:Int)=(t:Int):=by rw[IntKind.wrap_i64];omega
        replace b2:=Za b2;replace k7:=Za k7;replace b9:=Za b9;replace b5:=Za b5;clear c0 c1 nc hz s8 T f4 qs e7
        gi_wp2_with fail
        have c7:Hid (∀ wx,Below Zcc.heap.size Zcc wx->wx.cell? ⟨gcc,0,none⟩=some (.bool ccn)/\wx.cell? ⟨gcc,1,none⟩=some (.slice o5 cck ccc)/\wx.cell? ⟨gcc,2,none⟩=some (.bool ccm)/\wx.cell? ⟨gcc,3,none⟩=some (.slice o7 ccj ccd)/\wx.cell? ⟨gX,0,none⟩=some (.slice (some ⟨gO,0,none⟩) n n)/\wx.cell? ⟨w.heap.size,0,none⟩=some (.int .i64 n)/\wx.cell? ⟨gO,j,none⟩=some (.slice (some ⟨y.g,0,none⟩) (m-n) y.c)/\wx.cell? ⟨y.g,t*4,none⟩=some (.bool n3)/\wx.cell? ⟨y.g,t*4+1,none⟩=some (.slice A3 k3 c3)/\wx.cell? ⟨y.g,t*4+2,none⟩=some (.bool m3)/\wx.cell? ⟨y.g,t*4+3,none⟩=some (.slice B3 j3 r5)):=Za (λwx u=>⟨Zb u u0,Zb u u1,Zb u u2,Zb u u3,Zb u k1,Zb u k0,Zb u k2,Zb u r0,Zb u r1,Zb u r2,Zb u r3⟩);have e4:Below Zcc.heap.size Zcc Zcc.drew:=Zf (Qa _ _) 1;refine Zva [] hmx (by kernel_rfl) c7 e4 (λhxs3=>?_);refine Zje 10 [0,1,2,3,4,5,6,7,8,9] rfl (by kernel_rfl) (c7.out _ e4) ?_
        iterate 10 (refine tk1 (v:=?_) rfl (Qi ⟨by kernel_rfl,?_⟩) ?_;rotate_left;(· intro W2 hSw;(try dsimp only at hSw);go_simp;try with_reducible rfl);try simp only[Qc,Zgy,Zge,Zgs,putG_a,putG_s,putG_z])
        refine tk0 ?_;refine Za1 [(10,87),(11,76),(12,88),(14,19)] (λi=>match i with|11=>[13]|_=>[]) [(10,87),(11,76),(13,89),(12,88),(14,19)] (Zu Zcc.heap.size ((Zae E' i j:Rat)*X j (n+t)) 10 11 12 13 14 13) 2 (by kernel_rfl) (λ_ _ _ _ _ hb h=>Zdl hb h) (λwx h=>c7.out _ (e4.trans (h.mono e4.size))) ?hop3 ?hfin3
        case hop3 =>
         intro p hp;simp only[Qp,Qo,or_false]at hp;simp only[Qg,Qe,Zam,Qc,Zgy,Zge,Zgs];rcases hp with rfl|rfl|rfl|rfl
         ·intro ν wx hb hP
          have u:=e4.trans (hb.mono e4.size);refine Zn (i:=10) rfl (λK hK=>?_);go_simp;refine(Zud ccn ccm n3 m3 o5 o7 A3 B3 cck ccc ccj ccd k3 c3 j3 r5 _ _ wx (ccf.out.below u) (n0.below u) j5 k4).mono ?_;rintro e w5 ⟨J,b6,A5,k5,c5,b8,B5,m5,d5,rfl,I⟩;exact hK.out _ _ ⟨_,rfl,(by simp only[Zu];exact⟨_,_,_,_,_,_,_,_,rfl,I⟩),J,trivial⟩
         ·intro ν wx hb hP
          have h0:=hP (10,87) (by simp) (by kernel_rfl);simp only[Zu]at h0;obtain⟨b6,A5,k5,c5,b8,B5,m5,d5,hν,I⟩:=h0;rw[hν];refine Zn (i:=11) rfl (λK hK=>?_);go_simp;refine hK.out _ _ ⟨_,rfl,(by simp only[Zu];exact⟨_,_,_,_,_,_,_,_,rfl,I⟩),Qa _ _,?_⟩;exact⟨_,.int .i64 0,rfl,Qi ⟨by kernel_rfl,λW2 _=>by go_simp⟩,by simp[Zu],trivial⟩
         ·intro ν wx hb hP
          have h0:=hP (11,76) (by simp) (by kernel_rfl);simp only[Zu]at h0;obtain⟨b6,A5,k5,c5,b8,B5,m5,d5,hν,I⟩:=h0;rw[hν];refine Zn (i:=12) rfl (λK hK=>?_);go_simp;exact hK.out _ _ ⟨_,rfl,(by simp only[Zu];exact⟨_,_,_,_,_,_,_,_,rfl,I⟩),Qa _ _,trivial⟩
         ·intro ν wx hb hP
          refine Zn (i:=14) rfl (λK hK=>?_);go_simp;exact hK.out _ _ ⟨_,rfl,(by simp only[Zu];exact⟨_,rfl,hb.size,Qr _ _ _⟩),(Qa _ _).alloc (Qb _) _,trivial⟩
        case hfin3 =>
         intro ν wx hb hP;have h0:=hP (10,87) (by simp);have h1:=hP (11,76) (by simp);have h2:=hP (12,88) (by simp);have h3:=hP (13,89) (by simp);have h4:=hP (14,19) (by simp);simp only[Zu]at h0 h1 h2 h4;obtain⟨a0,a1,a2,a3,a4,a5,a6,a7,h0,-⟩:=h0;obtain⟨p5,m7,o4,n5,n7,p7,p4,m8,h1,-⟩:=h1;obtain⟨wwn,v8,wwk,wwc,wwm,t5,wwj,wwd,h2,wwf⟩:=h2;obtain⟨gww,h4,kv,qv⟩:=h4;simp only[Qg,Qe,Zam,Qc,Zgy,Zge,Zgs];rw[h0,h1,h2,(show ν 89=Value.int .i64 0 by simpa [Zu]using h3),h4];clear h0 h1 h2 h3 h4 hP ν;have u:=e4.trans (hb.mono e4.size);have C:=qv.four;have b1:Zcc.heap.size<=gww:=kv;refine(Zaa wwn v8 wwk wwc wwm t5 wwj wwd u b1 qv).elim (λZww hq=>?_);have c0:=C.1;have g0:=C.2.1;have g1:=C.2.2.1;have c3:=C.2.2.2.1;have f0:=C.2.2.2.2.1;have f1:=C.2.2.2.2.2.1;have f2:=C.2.2.2.2.2.2.1;have f3:=C.2.2.2.2.2.2.2;have hZ:=hq.1;refine Ze (i:=15) rfl (by kernel_rfl) (λK hK=>?_);go_simp;(try rw[hZ]);refine hK.out _ _ (λ_=>c7.out _ hq.2.1) ?_;clear hK K
         try simp only[Qc,Zgy,Zge,Zgs]
         refine Zgf 1 [16] rfl (by kernel_rfl) (c7.out _ hq.2.1) ?_
         (refine tk1 (v:=?_) rfl (Qi ⟨by kernel_rfl,?_⟩) ?_;rotate_left;(· intro W2 _;go_simp;try with_reducible rfl);try simp only[Qc,Zgy,Zge,Zgs,putG_a,putG_s,putG_z])
         refine tk0 ?_;refine Zj (by kernel_rfl) ?_ _;refine Qh ?_;have b7:=hq.2.1;have wwb:=Za hq.2.2.1;replace wwf:=Za (Fr.keep wwf hq.2.2.2.1);clear hq hZ c0 g0 g1 c3 f0 f1 f2 f3 C qv kv u hb e4 c7 hxs3;have t4:=b2.out.below b7;have p8:=k7.out.below b7;have j7:=Zd b7 b9.out;have l1:=b5.out.below b7;have o1:=(d5.out i (n+t) j).sm (by decide) (by decide);have y8:=y9.out.sm (by decide) (by decide);obtain⟨s0,s1,s2,s3,-⟩:=j7.four;obtain⟨v0,v1,v2,v3,-⟩:=wwb.out.four;replace t4:=Za t4;replace p8:=Za p8;replace j7:=Za j7;clear r0 r1 r2 r3 u0 u1 u2 u3 k0 k1 k2 j5 k4 b2 k7 b9 b5 n0 ccf ccb b4 b7
         gi_wp2_with fail
         refine⟨trivial,?_⟩;refine(CallsIn.inRound l (callsIn_wide.2 (Zuc sn sm wwn wwm sA sB v8 t5 sk sc sj sd wwk wwc wwj wwd _ _ Zww l1 wwf.out o1 y8))).mono ?_;rintro e w8 ⟨g2,n6,A6,k6,c6,m6,B6,j6,d6,rfl,g4⟩;rw[<- Zlh (λi j=>(Zae E' i j:Rat)) X (i:=i) (k:=n+t) (t:=j) (by omega)]at g4;have f5:=Zd g2 j7.out;have r9:=p8.out.below g2;obtain⟨W9,f8,A0,q9,i3,-,s9⟩:=Zaa (B:=gss) n6 A6 k6 c6 m6 B6 j6 d6 (Qa gss w8) (Qb _) f5;have p1:=Za (Fr.keep g4 i3)
         have B1:Hid (Kept (λk=>k=gss) Zss W9):=Za (by
          rw[<- f8];exact((((r9.set_ (p:=⟨gss,0,none⟩) (.inl rfl) _).set_ (p:=⟨gss,1,none⟩) (.inl rfl) _).set_ (p:=⟨gss,2,none⟩) (.inl rfl) _).set_ (p:=⟨gss,3,none⟩) (.inl rfl) _))
         replace q9:=Za q9;clear s0 s1 s2 s3 v0 v1 v2 v3 l1 g4 g2 i3 r9;obtain⟨s0,s1,s2,s3,s4,s5,p0,s7⟩:=f5.four
         gi_wp2_with fail
         (try rw[f8]);clear s0 s1 s2 s3 s4 s5 p0 s7 f8 f5
         go_roundw
         case measure=>simp[intOf];omega
         case rel=>exact⟨j+1,n6,A6,k6,c6,m6,B6,j6,d6,by go_num,by omega,by omega,q9.out,p1.out,B1.out⟩
      ·obtain rfl:j=n:=by omega
       have t3:decide ((j:Int)<(j:Int))=false:=by simp
       have C4:(0:Int)<=(i:Int):=by omega
       have bim:(i:Int)<(m:Int):=by omega
       have bij:(i:Int)<(j:Int):=by omega
       have ei:((i:Nat):Int).toNat=i:=by omega
       obtain⟨zn,zA,zk,zc,c0,c1,hz⟩:=(T.1.2.2.2.row hx).1.at_ (i:=i) (by rw[i9];omega);rw[f7.out]at hz;have nc:=T.1.1.cell 0;simp at nc;replace T:=Za T;replace qs:=Za qs;replace e7:=Za e7;replace f4:=Za f4
       gi_wp2_with fail
       have d7:Hid (∀ wx,Below wr.heap.size wr wx->wx.cell? ⟨x.g,(i)*2,none⟩=some (.bool zn)/\wx.cell? ⟨x.g,(i)*2+1,none⟩=some (.slice zA zk zc)):=Za (λwx u=>⟨Zb u c0,Zb u c1⟩);have e2:Below wr.heap.size wr wr.drew:=Zf (Qa _ _) 1;refine Zva [] hmx (by kernel_rfl) d7 e2 (λhxs=>?_);refine Zje 4 [0,1,2,3] rfl (by kernel_rfl) (d7.out _ e2) ?_
       iterate 4 (refine tk1 (v:=?_) rfl (Qi ⟨by kernel_rfl,?_⟩) ?_;rotate_left;(· intro W2 hSw;(try dsimp only at hSw);go_simp;try with_reducible rfl);try simp only[Qc,Zgy,Zge,Zgs,putG_a,putG_s,putG_z])
       refine tk0 ?_;refine Za1 [(4,101),(5,102),(6,96),(7,103),(9,21)] (λi=>match i with|6=>[8]|_=>[]) [(4,101),(5,102),(6,96),(8,104),(7,103),(9,21)] (Zbd wr.heap.size ((Zae E' i i):Rat) 4 5 6 7 8 9 8) 2 (by kernel_rfl) (λ_ _ _ _ _ hb h=>Zhi hb h) (λwx h=>d7.out _ (e2.trans (h.mono e2.size))) ?hop4 ?hfin4
       case hop4 =>
        intro p hp;simp only[Qp,Qo,or_false]at hp;simp only[Qg,Qe,Zam,Qc,Zgy,Zge,Zgs];rcases hp with rfl|rfl|rfl|rfl|rfl
        ·intro ν wx hb hP
         refine Zn (i:=4) rfl (λK hK=>?_);go_simp;refine(Zbq 1 wx (by decide) (by decide)).mono ?_;rintro e w5 ⟨J,d0,D0,e0,f0,rfl,hN⟩;obtain rfl:d0=false:=hN.1;exact hK.out _ _ ⟨_,rfl,(by simp only[Zbd];exact⟨_,_,_,rfl,hN⟩),J,trivial⟩
        ·intro ν wx hb hP
         have u:=e2.trans (hb.mono e2.size);have h0:=hP (4,101) (by simp) (by kernel_rfl);simp only[Zbd]at h0;obtain⟨D0,e0,f0,hν,hN⟩:=h0;rw[hν];refine Zn (i:=5) rfl (λK hK=>?_);go_simp;refine(Zf9 zn zA D0 zk zc e0 f0 (Zae E' i i) 1 wx (hz.below u) hN (by decide)).mono ?_;rintro e w5 ⟨J,b6,A5,k5,c5,b8,B5,m5,d5,rfl,I⟩;rw[Zff]at I;exact hK.out _ _ ⟨_,rfl,(by simp only[Zbd,Zu];exact⟨_,_,_,_,_,_,_,_,rfl,I⟩),J,trivial⟩
        ·intro ν wx hb hP
         have h0:=hP (5,102) (by simp) (by kernel_rfl);simp only[Zbd,Zu]at h0;obtain⟨b6,A5,k5,c5,b8,B5,m5,d5,hν,I⟩:=h0;rw[hν];refine Zn (i:=6) rfl (λK hK=>?_);go_simp;refine hK.out _ _ ⟨_,rfl,(by simp only[Zbd,Zu];exact⟨_,_,_,_,_,_,_,_,rfl,I⟩),Qa _ _,?_⟩;exact⟨_,.int .i64 0,rfl,Qi ⟨by kernel_rfl,λW2 _=>by go_simp⟩,by simp[Zbd,Zu],trivial⟩
        ·intro ν wx hb hP
         have h0:=hP (6,96) (by simp) (by kernel_rfl);simp only[Zbd,Zu]at h0;obtain⟨b6,A5,k5,c5,b8,B5,m5,d5,hν,I⟩:=h0;rw[hν];refine Zn (i:=7) rfl (λK hK=>?_);go_simp;exact hK.out _ _ ⟨_,rfl,(by simp only[Zbd,Zu];exact⟨_,_,_,_,_,_,_,_,rfl,I⟩),Qa _ _,trivial⟩
        ·intro ν wx hb hP
         refine Zn (i:=9) rfl (λK hK=>?_);go_simp;exact hK.out _ _ ⟨_,rfl,(by simp only[Zbd,Zu];exact⟨_,rfl,hb.size,Qr _ _ _⟩),(Qa _ _).alloc (Qb _) _,trivial⟩
       case hfin4 =>
        intro ν wx hb hP;have h9:=hP (4,101) (by simp);have h0:=hP (5,102) (by simp);have h1:=hP (6,96) (by simp);have h2:=hP (7,103) (by simp);have h3:=hP (8,104) (by simp);have h4:=hP (9,21) (by simp);simp only[Zbd,Zu]at h9 h0 h1 h2 h4;obtain⟨y0,y1,y2,h9,-⟩:=h9;obtain⟨a0,a1,a2,a3,a4,a5,a6,a7,h0,-⟩:=h0;obtain⟨p5,m7,o4,n5,n7,p7,p4,m8,h1,-⟩:=h1;obtain⟨ddn,t6,ddk,ddc,ddm,u7,ddj,ddd,h2,ddf⟩:=h2;obtain⟨gdd,h4,kv,qv⟩:=h4;simp only[Qg,Qe,Zam,Qc,Zgy,Zge,Zgs];rw[h9,h0,h1,h2,(show ν 104=Value.int .i64 0 by simpa [Zbd,Zu]using h3),h4];clear h9 h0 h1 h2 h3 h4 hP ν;have u:=e2.trans (hb.mono e2.size);have C:=qv.four;have b1:wr.heap.size<=gdd:=kv;refine(Zaa ddn t6 ddk ddc ddm u7 ddj ddd u b1 qv).elim (λZdd hq=>?_);have c0:=C.1;have g0:=C.2.1;have g1:=C.2.2.1;have c3:=C.2.2.2.1;have f0:=C.2.2.2.2.1;have f1:=C.2.2.2.2.2.1;have f2:=C.2.2.2.2.2.2.1;have f3:=C.2.2.2.2.2.2.2;have hZ:=hq.1;refine Ze (i:=10) rfl (by kernel_rfl) (λK hK=>?_);go_simp;(try rw[hZ]);refine hK.out _ _ (λ_=>d7.out _ hq.2.1) ?_;clear hK K
        try simp only[Qc,Zgy,Zge,Zgs]
        refine Zgf 1 [11] rfl (by kernel_rfl) (d7.out _ hq.2.1) ?_
        (refine tk1 (v:=?_) rfl (Qi ⟨by kernel_rfl,?_⟩) ?_;rotate_left;(· intro W2 _;go_simp;try with_reducible rfl);try simp only[Qc,Zgy,Zge,Zgs,putG_a,putG_s,putG_z])
        refine tk0 ?_;refine Zj (by kernel_rfl) ?_ _;refine Qh ?_;have e5:=hq.2.1;have ddb:=Za hq.2.2.1;have B7:Hid (wr.heap.size<=gdd):=Za b1;replace ddf:=Za (Fr.keep ddf hq.2.2.2.1);clear hq hZ c0 g0 g1 c3 f0 f1 f2 f3 C qv kv b1 u hb e2 d7 hxs;have b2:=T.out.below e5;have b9:=Zd e5 qs.out;have b5:=e7.out.below e5;obtain⟨s0,s1,s2,s3,-⟩:=b9.four;obtain⟨v0,v1,v2,v3,-⟩:=ddb.out.four;have j5:=(d5.out i (j+t) j).sm (by decide) (by decide);have k4:=(d3.out i i).sm (by decide) (by decide);have o1:=d1.out i u4;replace b2:=Za b2;replace b9:=Za b9;clear c0 c1 nc hz T f4 qs e7 e5
        gi_wp2_with fail
        refine⟨trivial,?_⟩;refine(CallsIn.inRound l (callsIn_wide.2 (Zqn sn sm ddn ddm sA sB t6 u7 sk sc sj sd ddk ddc ddj ddd _ _ Zdd b5 ddf.out j5 k4 o1))).mono ?_;rintro e w8 ⟨g2,n6,A6,k6,c6,m6,B6,j6,d6,rfl,g4⟩;rw[show upS (λi j=>(Zae E' i j:Rat)) X i (j+t) j/(Zae E' i i:Rat)=X i (j+t) from(d2.out i (j+t) u4 (by omega) (by omega)).symm]at g4;have s6:=b2.out.below g2;have f5:=Zd g2 b9.out;obtain⟨W9,f8,A0,q9,i3,-,s9⟩:=Zaa (B:=gss) n6 A6 k6 c6 m6 B6 j6 d6 (Qa gss w8) (Qb _) f5;have p1:=Za (Fr.keep g4 i3)
        have v4:Kept (λk=>k=gss) w8 W9:=by
         rw[<- f8];exact(((((QH (λk=>k=gss) w8).set_ (p:=⟨gss,0,none⟩) (.inl rfl) _).set_ (p:=⟨gss,1,none⟩) (.inl rfl) _).set_ (p:=⟨gss,2,none⟩) (.inl rfl) _).set_ (p:=⟨gss,3,none⟩) (.inl rfl) _)
        have d8:=s6.turn p3.out h7 f5 (Zfq _ _ _ _ _ _ _ _) k9.out i5.out l5.out v4;replace q9:=Za q9;clear s0 s1 s2 s3 v0 v1 v2 v3 b5 g4 g2 i3 b2 s6 v4 ddf ddb b9;obtain⟨s0,s1,s2,s3,s4,s5,p0,s7⟩:=f5.four;have kO:=d8.2.1.cell i;rw[Zbv (e:=cur) (by rw[Qq (by rw[Ql];exact Qb _),Ql,Nat.sub_self];rfl)]at kO;have kX:=d8.1.2.1.cell 0;simp at kX;have kz:=d8.2.1.frozen i;replace d8:=Za d8
        gi_wp2_with fail
        (try rw[f8]);clear s0 s1 s2 s3 s4 s5 p0 s7 f8 f5;obtain⟨x0,x1,x2,x3,-⟩:=q9.out.four;obtain⟨X0,m4⟩:∃ X,W9.drew=X:=⟨_,rfl⟩
        have U:Below W9.heap.size W9 X0:=by rw[<- m4];exact Zf (Qa _ _) 1
        have O:Hid (∀ wx,Below W9.heap.size W9 wx->wx.cell? ⟨gX,0,none⟩=some (.slice (some ⟨gO,0,none⟩) j j)/\wx.cell? ⟨gO,i,none⟩=some (.slice cur.A cur.n cur.c)/\wx.cell? ⟨gss,0,none⟩=some (.bool n6)/\wx.cell? ⟨gss,1,none⟩=some (.slice A6 k6 c6)/\wx.cell? ⟨gss,2,none⟩=some (.bool m6)/\wx.cell? ⟨gss,3,none⟩=some (.slice B6 j6 d6)):=Za (λwx u=>⟨Zb u kX,Zb u kO,Zb u x0,Zb u x1,Zb u x2,Zb u x3⟩);refine Zva [10] hmx (by kernel_rfl) O (by rw[m4];exact U) (λhxs=>?_);rw[m4];refine Zje 7 [0,1,2,3,4,5,6] rfl (by kernel_rfl) (O.out _ U) ?_
        iterate 7 (refine tk1 (v:=?_) rfl (Qi ⟨by kernel_rfl,?_⟩) ?_;rotate_left;(· intro W2 hSw;(try dsimp only at hSw);go_simp;try with_reducible rfl);try simp only[Qc,Zgy,Zge,Zgs,putG_a,putG_s,putG_z])
        refine tk0 ?_;obtain⟨Y1,j2⟩:∃ Y,X0.alloc (.cells #[.bool n6,.slice A6 k6 c6,.bool m6,.slice B6 j6 d6] 41)=Y:=⟨_,rfl⟩;obtain⟨ga,l8⟩:∃ g,X0.heap.size=g:=⟨_,rfl⟩;have v5:Below X0.heap.size X0 Y1:=by rw[<- j2];exact(Qa _ _).alloc (Qb _) _
        have t0:Blk Y1 ga 41 #[.bool n6,.slice A6 k6 c6,.bool m6,.slice B6 j6 d6]:=by rw[<- j2,<- l8];exact Qr _ _ _
        have a8:Below W9.heap.size W9 Y1:=U.trans (v5.mono U.size);refine Ze (i:=7) rfl (by kernel_rfl) (λK hK=>?_);go_simp;(try rw[j2]);(try rw[l8]);refine hK.out _ _ (λ_=>O.out _ a8) ?_;clear hK K j2 l8
        try simp only[Qc,Zgy,Zge,Zgs]
        have a9:=d8.out.below a8;have q7:=p1.out.below a8;have z9:=a9.2.2.2.2.size;refine Ze (i:=8) rfl (by kernel_rfl) (λK hK=>?_);rw[if_pos (by rfl)];refine Zg8 _ (.tmp 116) (.tmp 118) 35 rfl W.heap.size 41 iF Tryz.underlying35 hi A9 A4 w3 cur.val ((Qn t).map λc=>X i (j+c)) rfl a9.2.2.1 _ (some ⟨ga,0,none⟩) 1 1 [⟨n6,A6,k6,c6,m6,B6,j6,d6,X i (j+t)⟩] rfl (Zay _ t0) rfl (by intro e he;rw[List.mem_singleton]at he;subst he;exact q7) (by simp;omega) z9 ?_;intro v2 Y2 b3 j1 v9
        obtain⟨nA,nn,nc,rfl⟩:∃ A n c,v2=.slice A n c:=by
         obtain⟨A,c,e,-⟩:=b3.fl;exact⟨_,_,_,e⟩
        have l4:OwnF 41 Y2 W.heap.size (RS.val ⟨nA,nn,nc⟩) ((Qn (t+1)).map λc=>X i (j+c)):=by
         rw[List.range_succ,List.map_append];exact b3
        have i6:=a9.2.2.1.ownBlk
        have j9:Y2.cell? ⟨gX,0,none⟩=some (.slice (some ⟨gO,0,none⟩) j j)/\Y2.cell? ⟨gO,i,none⟩=some (.slice cur.A cur.n cur.c)/\Y2.cell? ⟨gss,0,none⟩=some (.bool n6)/\Y2.cell? ⟨gss,1,none⟩=some (.slice A6 k6 c6)/\Y2.cell? ⟨gss,2,none⟩=some (.bool m6)/\Y2.cell? ⟨gss,3,none⟩=some (.slice B6 j6 d6):=by
         have f:∀ (g o:Nat) (v:Value),g<W.heap.size \/ g=gO \/ g=gss->Y1.cell? ⟨g,o,none⟩=some v->Y2.cell? ⟨g,o,none⟩=some v:=λg o v hgg hv=>by
          rw[<- hv];refine World.cell?_of_block (j1.block g (Zo hv) (λe=>?_));obtain⟨cs,a1,-,a2⟩:=i6 g e.symm;rcases hgg with h1|h1|h1;omega;subst h1;exact h7 (a9.2.1.type a1);subst h1;exact i5.out e.symm
         have u9:gX<W.heap.size:=hE.out.2.1.lt;obtain⟨a0,a1,a2,a3,a4,a5⟩:=O.out _ a8;exact⟨f _ _ _ (.inl u9) a0,f _ _ _ (.inr (.inl rfl)) a1,f _ _ _ (.inr (.inr rfl)) a2,f _ _ _ (.inr (.inr rfl)) a3,f _ _ _ (.inr (.inr rfl)) a4,f _ _ _ (.inr (.inr rfl)) a5⟩
        refine hK.out _ _ (λ_=>j9) ?_;clear hK K
        try simp only[Qc,Zgy,Zge,Zgs]
        have p9:=Za (a9.app p3.out A1.out h7 r4.out (cur':=⟨nA,nn,nc⟩) j1 l4 v9);have x9:=j9.2.1
        have z6:Y2.frozen? ⟨gO,i,none⟩=false:=by
         rw[World.frozen?_of_block (j1.block gO a9.2.1.lt (λe=>by
          obtain⟨cs,a1,-,-⟩:=i6 gO e.symm;exact h7 (a9.2.1.type a1)))]
         exact a9.2.1.frozen i
        refine Zgf 1 [9] rfl (by kernel_rfl) j9 ?_
        (refine tk1 (v:=?_) rfl (Qi ⟨by kernel_rfl,?_⟩) ?_;rotate_left;(· intro W2 _;go_simp;try with_reducible rfl);try simp only[Qc,Zgy,Zge,Zgs,putG_a,putG_s,putG_z])
        refine tk0 ?_;clear j9 b3 l4 i6 a9 q7 t0 v5 a8;refine Zm (i:=10) rfl (by kernel_rfl) (by kernel_rfl) (λK hK=>?_);go_simp;refine hK.out _ _ ?_;clear hK K
        try simp only[Qc,Zgy,Zge,Zgs]
        refine Zj (by kernel_rfl) ?_ _;refine Qh ?_;clear x9 z6 hxs O U kX kO kz x0 x1 x2 x3 j1 v9
        gi_wp2_with fail
        go_roundw
        case measure=>simp[intOf];omega
        case rel=>exact⟨t+1,⟨nA,nn,nc⟩,by go_num,by omega,p9.out⟩
   ·obtain rfl:t=m-n:=by omega
    have t2:decide ((n:Int)+((m-n:Nat):Int)<(m:Int))=false:=decide_eq_false (by omega);obtain⟨r,B2,q4⟩:=b0.out (by simp;omega) hO.out t9;have x6:KeepsOthers W wr:=b0.2.2.2.2.others (λk hk=>⟨_,_,hk▸hO.out.1⟩);have u6:Below W0.heap.size W0 wr:=h5.out.trans (b0.2.2.2.2.to_below (λk hk=>by rw[hk];exact z8) t9);have o3:=b0.1
    gi_wp2_with fail
    (try go_at_K);refine⟨x6,⟨λ_=>by rw[o3.2.2.1.cell];rfl,λ_=>o3.sl l3 j4 o2⟩,⟨o3,r::L,by rw[Qs,r8],?_,?_⟩,u6⟩
    rw[Qg,B2,g9.out,Zus hk,show n-k=i+1 by omega,show n-1-k=i by omega];rw[A2];exact q4
 case done =>
  intro D W hD hI hK
  have z7:∀ (W':World),W'=W.putObj D (.deferred none)->(EnvK 3 25 149 150 39 W' w.heap.size gX gO gB go n (some ⟨go,0,none⟩) cap L2/\∃ L:List RF,L.length=n/\L.map RF.q=(Zdz X n m).drop (n-n)/\OutK 35 41 W' W0.heap.size gO (n-n) L):=λW' e=>by
   obtain⟨⟨h1,L,h2,h3,h4⟩,-⟩:=hI;subst e;have hr:∀ r,some D=some r->∃ o:Obj,W.heap[r]?=some o/\o.isCells=false:=λr e=>by cases e;exact⟨_,hK,rfl⟩
   exact⟨h1.own (grownBy_putObj' W D _) hr,L,h2,h3,h4.own (grownBy_putObj' W D _) hr⟩
  have kX:=hI.1.1.2.1.cell 0;simp at kX;have h5:=hI.2;clear hI;go_wp2_with fail
  have x4:w.heap.size<=V5.heap.size:=by
   have h1:=T.out.size;have h2:=h6.size;omega
  refine⟨by simp,.inl ⟨_,_,rfl,run_takeDeferred hK,?_⟩⟩;obtain⟨C0,L,C6,t7,b3⟩:=z7 _ rfl;rw[Nat.sub_self]at t7 b3;refine⟨.tuple #[.slice (some ⟨gO,0,none⟩) n n,.bool true],by simp[results,Tryz.f82,go_sem],gO,L,rfl,(h6.trans (h5.mono h6.size)).trans (belowK_b (w:=V5) x4 W D _ _ hD hK rfl rfl),by have h2:=h6.size;omega,⟨⟨[],?_⟩,λr hr=>(b3.2.1 r hr).1,?_⟩,by rw[t7,List.drop_zero],λr hr=>Qk h6.size (b3.2.1 r hr).2⟩
  ·have h1:=b3.1
   rw[List.replicate_zero,Qt]at h1;rw[QG];exact h1
  ·rw[List.nodup_cons]
   refine⟨λhm=>?_,b3.2.2⟩;obtain⟨r,hr,e⟩:=List.mem_map.1 hm;obtain⟨es,zs,h1,-,-⟩:=(b3.2.1 r hr).1.1;rw[e]at h1;exact h7 (b3.1.type h1)
theorem Zxk(A:Option Addr)(n c m:Nat)(Q:List (List Rat))(w:World)(h:MFL w A n c Q)(hn0:0<n)(hn9:n<=900)(hnm:n<=m)(hm9:m<=900)(hm:∀ i,i<n->(Q[i]?.getD []).length=m)(U:okZ (pw 200) m n 0 0 (Z6 Q) 1)(hfin:Zqd Q n m)(a7:(Zan n 0 0 (Z6 Q) false 1).2.1<n) :
    Calls Tryz.prog 82 #[.slice A n c,.int .i64 n] w λe w'=>e=.returned (.tuple #[.slice none 0 0,.bool false])/\Below w.heap.size w w':=by
 have hmx:Tryz.prog.follows .mixedOrders=true:=by kernel_rfl
 have c9:(150:TypeId)≠39:=by decide
 have d6:(35:TypeId)≠41:=by decide
 have d5:Hid (NoT 3 25 149 150 39 41):=Za (by unfold NoT;decide);have e0:Hid (NoT 3 25 149 150 39 35):=Za (by unfold NoT;decide);obtain⟨iF,hi,e1,d8,d4⟩:=info_parts Zdg;obtain⟨iS,ki,e2,d9,d7⟩:=info_parts Zeu;have c6:=Za h.1;obtain⟨W0,c5,b1,q0,s0⟩:=Zax w 3 #[.int .i64 n];replace h:=h.below b1;obtain⟨FIN,C⟩:∃ X,Zan n 0 0 (Z6 Q) false 1=X:=⟨_,rfl⟩;rw[C]at a7;obtain⟨E',rk,ng,la⟩:=FIN;replace a7:rk<n:=a7;replace C:=Za C;replace U:=Za U;refine(callsIn_wide (n:=9)).1 ?_;refine callsIn_of_wp_marks Tryz.func82 rfl trivial ?_ rfl;simp only[Tryz.ntmps82,QB,Qs,QF,Nat.reduceAdd,Nat.reduceSub,Qv,Qw,QC,Qz,Qt,QE];refine wpIn_wide.2 ?_;go_wp2_with fail;refine(Zog A n c m Q W0 h hn9 hm (by omega) hm9 hfin.1 hfin.2).mono ?_;rintro e w1 ⟨v,vb,L,rfl,O,hM,hq,hP,a2⟩;obtain⟨vA,vc,rfl,b5,b7,-⟩:=hP.poly_at;rw[Qd,Qj]at b5 hP a2 ⊢;unfold maxLen at b7;have f:=congrArg QD hq;rw[Qd]at f;unfold Z6 at f;rw[Qd,c6.out]at f;obtain⟨go,cap,rfl,b8,d0,b9,a9,b6⟩:=hM.mat c9 (λe=>by rw[e]at f;simp at f;omega);rw[f]at b8 ⊢;obtain⟨g3,a6⟩:∃ g,w1.heap.size=g:=⟨_,rfl⟩;obtain⟨V,hV,Y,qv,kW,kB,sV⟩:=Zt 152 #[.slice (some ⟨go,0,none⟩) n cap,.slice vA n vc] (Qa w1.heap.size w1) (Qb _)
 have c0:=a9.below Y;have I:=(Zd O q0).below Y (Zd O q0).lt;rw[a6]at qv;obtain⟨x0,x1,-,-⟩:=qv.two;have nV:=I.cell 0;simp at nV;replace f:=Za f;have b2:Hid (w.heap.size<W0.heap.size):=Za (by omega);have J:Hid (Below W0.heap.size W0 V):=Za (O.trans (Y.mono O.size))
 have u:∀ k,(k=go \/ k ∈ L.map RZ.g)->W0.heap.size<=k:=λk hk=>by
  rcases hk with rfl|hk;exact b9
  ·obtain⟨s,hs,rfl⟩:=List.mem_map.1 hk
   exact b6 s hs
 have y:∀ k,(k=go \/ k ∈ L.map RZ.g)->k<g3:=λk hk=>by
  obtain⟨t,cs,hb,-⟩:=a9.boxes k hk;rw[<- a6];exact hb.lt
 replace u:=Za u;replace y:=Za y;replace qv:=Za qv;replace I:=Za I;clear hM a9 kW kB sV a2 hP h c5 b9 b6 q0 O Y;go_wp2_with fail;(try rw[a6]);(try rw[hV]);refine(Zid go n cap L (.slice vA n vc) m n V c0 f.out hn0 hn9 b8 d0 (by omega) hm9 (by rw[hq];exact U.out)).mono ?_;rw[hq,C.out];rintro e w2 ⟨L2,ln,lA,lk,lc,rfl,c8,d3,-,a1,b4,T⟩;replace a1:L2.map RZ.q=E':=a1;clear hV x0 x1 nV;have a4:¬ (g3=go \/ g3 ∈ L.map RZ.g):=λh=>by have:=y.out g3 h;omega
 have q3:=T.blk qv.out a4;have a8:=T.blk I.out (λh=>by have:=u.out _ h;have:=b2.out;omega);have a5:Below W0.heap.size W0 w2:=J.out.trans (T.to_below u.out J.out.size);obtain⟨g6,c2⟩:∃ g,w2.heap.size=g:=⟨_,rfl⟩;obtain⟨V2,c1,o,c3,kW,kB,sV⟩:=Zt 39 #[.bool ln,.slice lA lk lc] (Qa w2.heap.size w2) (Qb _);have a3:=q3.below o q3.lt;have a0:=a8.below o a8.lt;have b3:=b4.below o;have b0:=Za (a5.trans (o.mono a5.size));obtain⟨y0,y1,-,-⟩:=a3.two;have c4:=a0.cell 0;simp at c4;have t1:decide ((rk:Int)<(n:Int))=true:=decide_eq_true (by omega);have c7:Hid (Below w.heap.size w V2):=Za (b1.trans (b0.out.mono b1.size));clear c0 T a5 c8 q3 a8 kW kB sV u y o a3 a0 b4 c3 a4 I qv J b3 hm hfin U;go_wp2_with fail;(try rw[c2]);(try rw[c1]);go_wp2_with fail;exact⟨.tuple #[.slice none 0 0,.bool false],by simp[results,Tryz.f82,go_sem],rfl,c7.out⟩
