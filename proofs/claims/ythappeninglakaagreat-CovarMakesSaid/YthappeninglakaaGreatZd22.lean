/- Reference of covar: zeros, Check, made. The reference of -/
import Derived.Test.YthappeninglakaaGreatZd21
set_option maxRecDepth 100000
set_option maxHeartbeats 8000000
set_option linter.unusedSimpArgs false
set_option linter.unusedVariables false
namespace Go.Proofs.YthappeninglakaaGreat
open Go.RowKit
open List renaming replicate→Qa,getElem?_eq_getElem→Qc,getElem?_map→Qf,mem_of_getElem?→Qg,getElem?_range→Qh,length_map→Qi,getElem_of_mem→Qk,getElem?_eq_none→Qn,map_congr_left→Qp,any_eq_false→Qr
open Below renaming refl→Qb
open Act renaming put→Qd
open Nat renaming lt_or_ge→Qe,le_refl→Ql,zero_le→Qm,le_trans→Qq
open Or renaming inl→Qj
open Rat renaming mul_assoc→Qo
open OnlyNormal renaming normal→Qs
open Option renaming getD_some→Qt,map_some→Qu
attribute [local go_sem] Zh
theorem Ziy{A:Nat->Nat->Rat}{n c:Nat}(h:∀ i,i<n->A i c=0):∀ t i,t<=n->i<n->Zai A t i c=0
 | 0,i,_,hi=>h i hi
 | t+1,i,ht,hi=>by
  show (if t<i then _ else _)=_;rw[Ziy h t i (by omega) hi,Ziy h t t (by omega) (by omega)]
  split
  ·grind
  rfl
theorem SmN.zeroC(a b:Nat):SmN (a+1) (b+1) 0:=⟨by have:=Zc2 (a+1);show (0:Rat).num.natAbs<_;exact this,by
 show (1:Nat)<pw (b+1);rw[Zbh];have:=Zc2 b;omega⟩
section
variable{Q:List (List Rat)}{n:Nat}
theorem Zrb(hm:∀ i,i<n->(Q[i]?.getD []).length=n){t i k:Nat}(ht:t<=n)(hi:i<n):Zai (Zl (Zcb Q (Qa n 0) n)) t i k=if k<n then Zai (Zl Q) t i k else 0:=by
 by_cases hk:k<n
 ·rw[if_pos hk]
  exact Zen (n:=n) (m:=n) (λi k hi hk=>Zwe hm hi hk) (Ql _) t i k ht hi hk
 ·rw[if_neg hk]
  refine Ziy (n:=n) (λi hi=>?_) t i ht hi;rcases Qe n k with h|h;exact Ztb hm hi h
  ·obtain rfl:n=k:=by omega
   rw[Zsk hm hi];simp[List.getElem?_replicate,hi]
theorem Zol(hm:∀ i,i<n->(Q[i]?.getD []).length=n){i:Nat}(hi:i<n):dQ (Zl (Zcb Q (Qa n 0) n)) i=dQ (Zl Q) i:=by
 unfold dQ;rw[Zrb hm (by omega) hi,if_pos hi]
theorem Zh7(hm:∀ i,i<n->(Q[i]?.getD []).length=n){t:Nat}(ht:t<=n):posP (Zl (Zcb Q (Qa n 0) n)) t ↔ posP (Zl Q) t:=
 ⟨λh s hs=>by rw[<- Zol hm (by omega)];exact h s hs,λh s hs=>by rw[Zol hm (by omega)];exact h s hs⟩
theorem wide0_l(hm:∀ i,i<n->(Q[i]?.getD []).length=n){i k:Nat}(hi:i<n)(hk:k<n):lQ (Zl (Zcb Q (Qa n 0) n)) i k=lQ (Zl Q) i k:=by
 unfold lQ;rw[Zol hm hk,Zrb hm (by omega) hi,if_pos hk]
theorem Zq2(hm:∀ i,i<n->(Q[i]?.getD []).length=n):SolvC (λi j=>Zai (Zl (Zcb Q (Qa n 0) n)) i i j) (λ_ _=>0) n:=by
 have hz:∀ (E:Nat->Nat->Rat) i t,upS E (λ_ _=>0) i n t=E i n:=λE i t=>by
  unfold upS
  have:Za9 t (λj=>if i<j then E i j*0 else 0)=0:=by
   induction t with
   | zero=>rfl
   | succ t ih=>simp only[Za9];rw[ih];split <;> grind
  rw[this];grind
 have hE:∀ i,Zai (Zl (Zcb Q (Qa n 0) n)) i i n=0 \/ n<=i:=λi=>by
  rcases Qe i n with h|h;left;rw[Zrb hm (by omega) h,if_neg (by omega)];exact .inr h
 refine⟨λi hi=>?_,λi=>SmN.zeroC 299 299,λi t=>?_⟩
 ·rw[hz]
  show (0:Rat)=Zai _ i i n/_;rcases hE i with h|h;rw[h];grind;omega
 ·rw[hz]
  show SmN 400 400 (Zai _ i i n);rcases hE i with h|h;rw[h];exact SmN.zeroC 399 399
  ·have h0:∀ t,Zai (Zl (Zcb Q (Qa n 0) n)) t i n=0 \/ True:=λ_=>.inr trivial
   have h1:∀ t j,n<=j->Zai (Zl (Zcb Q (Qa n 0) n)) t j n=0:=λt=>by
    induction t with
    | zero =>
     intro j hj;show Zl _ j n=0;unfold Zl;rw[Qn (l:=Zcb Q _ n) (by rw[Zkm];exact hj)];rfl
    | succ t ih =>
     intro j hj;show (if t<j then _ else _)=_
     have h2:Zai (Zl (Zcb Q (Qa n 0) n)) t t n=0:=by
      rcases Qe t n with h3|h3;rw[Zrb hm (by omega) h3,if_neg (by omega)];exact ih t h3
     rw[ih j hj,h2]
     split
     ·grind
     rfl
   rw[h1 i i h];exact SmN.zeroC 399 399
end
theorem Zqg(n:Nat)(w:World)(hn9:n<=100) :
    Calls Tryz.prog 58 #[.int .i64 n] w λe w'=>∃ v,e=.returned v/\Below w.heap.size w w'/\OwnF 41 w' w.heap.size v (Qa n 0):=by
 obtain⟨iF,hi,a1,V,T⟩:=info_parts Zdg;go_enter Tryz.func58,Tryz.ntmps58;go_wp2_with fail
 go_loopg [3,4] n (λk ov iv wr=>∃ i:Nat,i+k=n/\iv=.int .i64 i/\Below w.heap.size w wr/\OwnF 41 wr w.heap.size ov (Qa i 0))
 case atStart=>exact⟨0,by omega,rfl,Qb _ _,OwnF.nil _ _ _⟩
 case round =>
  obtain⟨i,a5,rfl,hB,hO⟩:=hrel;cases gk with
  | zero =>
   obtain rfl:n=i:=by omega
   have t1:decide ((n:Int)<(n:Int))=false:=by simp
   replace hO:=Za hO;go_wp2_with fail;go_ret;exact⟨_,rfl,hB,hO.out⟩
  | succ k' =>
   obtain rfl:k'=n-(i+1):=by omega
   have a4:i<n:=by omega
   have t1:decide ((i:Int)<(n:Int))=true:=decide_eq_true (by omega);obtain⟨zA,zc,rfl,y⟩:=hO.fl;have J:(Qa i (0:Rat)).length=i:=by simp
   rw[J]at y ⊢;replace hO:=Za hO;replace y:=Za y;go_wp2_with fail;refine(Zhz 0 wr (by decide) (by decide)).mono ?_;rintro e w1 ⟨f,xn,xA,xk,xc,xm,xB,xj,xd,rfl,hf⟩;obtain⟨Y1,u⟩:∃ Y,w1.alloc (.cells #[.bool xn,.slice xA xk xc,.bool xm,.slice xB xj xd] 41)=Y:=⟨_,rfl⟩;have h:Below w1.heap.size w1 Y1:=by rw[<- u];exact(Qb _ _).alloc (Ql _) _
   have a2:Blk Y1 w1.heap.size 41 #[.bool xn,.slice xA xk xc,.bool xm,.slice xB xj xd]:=by rw[<- u];exact Blk.new _ _ _
   have a3:Fr Y1 xn xA xk xc xm xB xj xd 0:=hf.below h;have o:=(hO.out.kept f).kept h;have C:=hB.trans ((f.trans (h.mono f.size)).mono hB.size);have I:=C.size;rw[J]at o;go_wp2_with ((try rw[u]);at_builtin;refine Zby _ rfl (.tmp 10) (.tmp 12) 35 rfl w.heap.size 41 iF Tryz.underlying35 hi a1 V T _ _ rfl o _ (some ⟨w1.heap.size,0,none⟩) 1 1 [⟨xn,xA,xk,xc,xm,xB,xj,xd,0⟩] rfl (Zay _ a2) rfl (by intro e he;rw[List.mem_singleton]at he;subst he;exact a3) (by simp;omega) I ?_;intro v2 w5 O U a6);have a0:=C.grown U I (λk hk=>o.row_ge k hk);simp only[List.map_cons,List.map_nil]at O
   go_roundg (n-(i+1))
   case measure=>omega
   case rel=>exact⟨i+1,by omega,by go_num,a0,by rw[List.replicate_succ'];exact O⟩
theorem Zpf(A:Option Addr)(n c:Nat)(rs:List RX)(w:World)(h:MXL w A n c rs)(hF:Zoq rs)(E:Int)(hE:Zco rs=E) :
    Calls Tryz.prog 16 #[.slice A n c] w λe w'=>e=.returned (.int .i64 E)/\Below w.heap.size w w':=by
 have hmx:Tryz.prog.follows .mixedOrders=true:=by kernel_rfl
 have hl:=Za h.1;have d4:=h.2.1;have c4:=h.2.2.1;unfold maxLen at c4;replace hE:=Za hE;by_cases h6:6<n
 ·have t1:decide ((6:Int)<(n:Int))=true:=decide_eq_true (by omega)
  obtain rfl:E=4:=by rw[<- hE.out];exact Zhx (by unfold long6;rw[hl.out,decide_eq_true h6];rfl)
  clear h;go_enter Tryz.func16,Tryz.ntmps16;go_wp2_with fail;go_ret;exact⟨rfl,by first|exact Qb _ _|exact Zf (Qb _ _) _⟩
 have t1:decide ((6:Int)<(n:Int))=false:=decide_eq_false (by omega);have hH:=Za h;clear h;go_enter Tryz.func16,Tryz.ntmps16;go_wp2_with fail
 go_loopg [3] n (λt iv wr=>∃ i:Nat,i+t=n/\iv=.int .i64 i/\Hid (∀ j r,j<i->rs[j]?=some r->r.long6=false)/\Below w.heap.size w wr)
 case atStart=>exact⟨0,by omega,rfl,Za (λj r hj=>by omega),Qb _ _⟩
 case round =>
  obtain⟨w1,rfl⟩:∃ x:World,x=wr:=⟨_,rfl⟩;obtain⟨i,c3,rfl,I,a0⟩:=hrel;cases gk with
  | succ t =>
   obtain rfl:t=n-(i+1):=by omega
   have a9:i<n:=by omega
   have t2:decide ((i:Int)<(n:Int))=true:=decide_eq_true (by omega);have bi:(i:Int)<(n:Int):=by omega
   obtain⟨g,o,r,rfl,he,c0,hL⟩:=(hH.out.below a0).at_ a9;have a1:=hL.nlenC;unfold maxLen at a1;clear hL;by_cases hx:6<r.n
   ·have t3:decide ((6:Int)<(r.n:Int))=true:=decide_eq_true (by omega)
    obtain rfl:E=4:=by
     rw[<- hE.out];refine Zhx ?_;unfold long6;have:rs.any RX.long6=true:=List.any_eq_true.2 ⟨r,Qg he,by unfold RX.long6;exact decide_eq_true hx⟩;rw[this,Bool.or_true]
    replace he:=Za he;replace hx:=Za hx;go_wp2_with fail;go_ret;exact⟨rfl,a0⟩
   ·have t3:decide ((6:Int)<(r.n:Int))=false:=decide_eq_false (by omega)
    have U:Hid (∀ j r',j<i+1->rs[j]?=some r'->r'.long6=false):=Za (λj r' hj he'=>by
     rcases Qe j i with h'|h';exact I.out j r' h' he'
     ·obtain rfl:j=i:=by omega
      rw[he]at he';cases he';unfold RX.long6;exact decide_eq_false hx)
    replace he:=Za he;replace hx:=Za hx;go_wp2_with fail
    go_roundg (n-(i+1))
    case measure=>omega
    case rel=>exact⟨i+1,by omega,by go_num,U,a0⟩
  | zero =>
   obtain rfl:n=i:=by omega
   have t2:decide ((n:Int)<(n:Int))=false:=by simp
   have b1:Hid (long6 rs=false):=Za (by
    unfold long6;rw[hl.out,decide_eq_false h6,Bool.false_or,Qr];intro r hr;obtain⟨j,hj,e⟩:=Qk hr;have:=I.out j r (by rw[hl.out]at hj;exact hj) (by rw[Qc hj,e]);rw[this];decide)
   by_cases u:n=0
   ·have t3:((n:Int) == 0)=true:=by simp[u]
    have c5:decide (n=0)=true:=by simpa using u
    obtain rfl:E=8:=by rw[<- hE.out];exact Zp8 b1.out (by rw[hl.out];exact u)
    replace u:=Za u;go_wp2_with fail;go_ret;exact⟨rfl,a0⟩
   have t3:((n:Int) == 0)=false:=by simp;omega
   have c5:decide (n=0)=false:=by simpa using u
   replace u:=Za u;replace h6:=Za h6;go_wp2_with fail
   go_loopg [4] n (λt iv wr=>∃ i:Nat,i+t=n/\iv=.int .i64 i/\Hid (∀ j r,j<i->rs[j]?=some r->Zda rs.length r=true)/\Below w.heap.size w wr)
   case atStart=>exact⟨0,by omega,rfl,Za (λj r hj=>by omega),a0⟩
   case round =>
    clear a0 I;obtain⟨wi,rfl⟩:∃ x:World,x=wr:=⟨_,rfl⟩;obtain⟨i,c3,rfl,I,J⟩:=hrel;cases gk with
    | succ t =>
     obtain rfl:t=n-(i+1):=by omega
     have a9:i<n:=by omega
     have t4:decide ((i:Int)<(n:Int))=true:=decide_eq_true (by omega);have bi:(i:Int)<(n:Int):=by omega
     obtain⟨g,o,r,rfl,he,c0,hL⟩:=(hH.out.below J).at_ a9;have a1:=hL.nlenC;unfold maxLen at a1;have bad:Hid (Zda rs.length r=false->Zco rs=8):=Za (λhf=>Zpu b1.out (by rw[hl.out];exact u.out) (Qg he) hf)
     have good:Hid (Zda rs.length r=true->∀ j r',j<i+1->rs[j]?=some r'->Zda rs.length r'=true):=Za (λhf j r' hj he'=>by
      rcases Qe j i with h'|h';exact I.out j r' h' he'
      ·obtain rfl:j=i:=by omega
       rw[he]at he';cases he';exact hf)
     replace he:=Za he;by_cases hq:r.n=n
     case neg =>
      have t5:((r.n:Int) == (n:Int))=false:=beq_eq_false_iff_ne.2 (by omega);have c9:((r.n:Int) != (n:Int))=true:=by rw[bne,t5];rfl
      have b7:decide (r.n=n)=false:=by simpa using hq
      obtain rfl:E=8:=by rw[<- hE.out];exact bad.out (by unfold Zda;rw[hl.out,decide_eq_false hq];rfl)
      replace hq:=Za hq;clear hL;go_wp2_with fail;go_ret;exact⟨rfl,J⟩
     have t5:((r.n:Int) == (n:Int))=true:=beq_iff_eq.2 (by omega);have c9:((r.n:Int) != (n:Int))=false:=by rw[bne,t5];rfl
     have b7:decide (r.n=n)=true:=by simpa using hq
     obtain⟨y,hy⟩:∃ y,Zep r.es=y:=⟨_,rfl⟩;have hV:=Za (λW1 (hb:Below wi.heap.size wi W1)=>Znm r.A r.n r.c r.es W1 (hL.below hb) y hy);have c7:=Za hq;replace hq:=Za hq;clear hL;cases y
     ·obtain rfl:E=8:=by rw[<- hE.out];exact bad.out (by unfold Zda;rw[hy];simp)
      clear hy;go_wp2_with fail;refine(hV.out _ (by first|exact Qb _ _|exact Zf (Qb _ _) _)).mono ?_;rintro e' w2 ⟨rfl,b0⟩;go_wp2_with fail;go_ret;exact⟨rfl,J.trans (b0.mono J.size)⟩
     ·have U:=Za (good.out (by unfold Zda;rw[hy,hl.out,c7.out,decide_eq_true rfl];rfl))
      clear hy;go_wp2_with fail;refine(hV.out _ (by first|exact Qb _ _|exact Zf (Qb _ _) _)).mono ?_;rintro e' w2 ⟨rfl,b0⟩;go_wp2_with fail
      go_roundg (n-(i+1))
      case measure=>omega
      case rel=>exact⟨i+1,by omega,by go_num,U,J.trans (b0.mono J.size)⟩
    | zero =>
     obtain rfl:n=i:=by omega
     have t4:decide ((n:Int)<(n:Int))=false:=by simp
     have hV:Hid (covV rs):=Za ⟨b1.out,by rw[hl.out];exact u.out,by
      rw[List.all_eq_true];intro r hr;obtain⟨j,hj,e⟩:=Qk hr;exact I.out j r (by rw[hl.out]at hj;exact hj) (by rw[Qc hj,e])⟩
     have hM:=Za (hV.out.good (hH.out.below J));have d6:Hid (∀ a b,Sm (Zl (qM rs) a b)):=Za (λa b=>(hV.out.small64 hH.out).smC (by decide) a b);have f:Hid (∀ a,a<n->((qM rs)[a]?.getD []).length=n):=Za (λa ha=>hV.out.row hH.out a ha);go_wp2_with fail
     go_loopg [5] n (λt jv wr=>∃ j:Nat,j+t=n/\jv=.int .i64 j/\Hid (∀ a b,a<j->b<a->Zl (qM rs) a b=Zl (qM rs) b a)/\Below wi.heap.size wi wr)
     case atStart=>exact⟨0,by omega,rfl,Za (λa b ha=>by omega),Qb _ _⟩
     case round =>
      obtain⟨wj,rfl⟩:∃ x:World,x=wr:=⟨_,rfl⟩;obtain⟨j,d5,rfl,b4,V⟩:=hrel;have C:=J.trans (V.mono J.size);cases gk with
      | zero =>
       obtain rfl:n=j:=by omega
       have t5:decide ((n:Int)<(n:Int))=false:=by simp
       have hs:Hid (Zjg (qM rs)=true):=Za (by
        unfold Zjg;rw[decide_eq_true_eq];intro a ha b hb;rw[show (qM rs).length=n by unfold qM;rw[Qi,hl.out]]at ha;exact b4.out a b ha hb)
       have b8:Hid (FacP (Zl (qM rs)) n):=Za (by have:=hF hV.out hs.out;rw[hl.out]at this;exact this);go_wp2_with fail;refine(Zqg n wj (by have:=h6.out;omega)).mono ?_;rintro e w5 ⟨v,rfl,T,hO⟩;obtain⟨zA,zc,rfl,hz⟩:=hO.fl;have a1:(Qa n (0:Rat)).length=n:=by simp
       rw[a1]at hz ⊢;replace hz:=Za hz;clear hO;go_wp2_with fail;refine(Zpi A n c (qM rs) zA zc _ w5 (hM.out.below (V.trans (T.mono V.size))) hz.out (by have:=u.out;omega) (by have:=h6.out;omega) f.out (λt i k ht hp hi=>?_) (λi k hk hi hp=>?_) (λ_ _=>0) (λ_=>Zq2 f.out)).mono ?_
       ·rw[Zrb f.out ht hi]
        split
        rename_i h1;exact b8.out.s t i k ht ((Zh7 f.out ht).1 hp) hi h1;exact SmN.zeroC 379 379
       ·rw[wide0_l f.out hi (by omega)]
        exact b8.out.l i k hk hi ((Zh7 f.out (by omega)).1 hp)
       rintro e w6 ⟨b5,⟨hp,B,c',rfl,-⟩|⟨hp,rfl⟩⟩
       ·obtain rfl:E=0:=by rw[<- hE.out];exact hV.out.pos hs.out (by rw[hl.out];exact(Zh7 f.out (Ql _)).1 hp)
        go_wp2_with fail;go_ret;exact⟨rfl,C.trans ((T.trans (b5.mono T.size)).mono C.size)⟩
       ·obtain rfl:E=8:=by rw[<- hE.out];exact hV.out.neg hs.out (by rw[hl.out];exact λh=>hp ((Zh7 f.out (Ql _)).2 h))
        go_wp2_with fail;go_ret;exact⟨rfl,C.trans ((T.trans (b5.mono T.size)).mono C.size)⟩
      | succ t =>
       obtain rfl:t=n-(j+1):=by omega
       have a4:j<n:=by omega
       have t5:decide ((j:Int)<(n:Int))=true:=decide_eq_true (by omega);have bj:(j:Int)<(n:Int):=by omega
       go_wp2_with fail
       go_loopg [6] j (λt kv wr=>∃ k:Nat,k+t=j/\kv=.int .i64 k/\Hid (∀ b,b<k->Zl (qM rs) j b=Zl (qM rs) b j)/\Below wj.heap.size wj wr)
       case atStart=>exact⟨0,by omega,rfl,Za (λb hb=>by omega),Qb _ _⟩
       case round =>
        obtain⟨wk,rfl⟩:∃ x:World,x=wr:=⟨_,rfl⟩;obtain⟨k,d0,rfl,b6,a2⟩:=hrel;cases gk with
        | zero =>
         obtain rfl:j=k:=by omega
         have t6:decide ((j:Int)<(j:Int))=false:=by simp
         have c1:Hid (∀ a b,a<j+1->b<a->Zl (qM rs) a b=Zl (qM rs) b a):=Za (λa b ha hb=>by
          rcases Qe a j with h'|h';exact b4.out a b h' hb
          ·obtain rfl:a=j:=by omega
           exact b6.out b hb)
         go_wp2_with fail
         go_roundg (n-(j+1))
         case measure=>omega
         case rel=>exact⟨j+1,by omega,by go_num,c1,V.trans (a2.mono V.size)⟩
        | succ t' =>
         obtain rfl:t'=j-(k+1):=by omega
         have d3:k<j:=by omega
         have t6:decide ((k:Int)<(j:Int))=true:=decide_eq_true (by omega);have bk:(k:Int)<(j:Int):=by omega
         have bki:(k:Int)<(n:Int):=by omega
         have a8:=V.trans (a2.mono V.size);obtain⟨g,o,A',n',c',rfl,c0,hR⟩:=(hM.out.below a8).at_ a4;have c8:n=n':=by rw[<- hR.len];exact(f.out j a4).symm
         subst c8;have b2:=hR.cap;unfold maxLen at b2;obtain⟨ga,oa,xn,xA,xk,xc,xm,xB,xj,xd,rfl,⟨r0,r1,r2,r3⟩,hX⟩:=hR.at_ (show k<n by omega);obtain⟨A2,n2,c2,ck,a7⟩:=(hM.out.below a8).atS (show k<n by omega);have c6:n=n2:=by rw[<- a7.len];exact(f.out k (by omega)).symm
         subst c6;have a6:=a7.cap;unfold maxLen at a6;obtain⟨gb,ob,yn,yA,yk,yc,ym,yB,yj,yd,rfl,⟨s0,s1,s2,s3⟩,hY⟩:=a7.at_ a4;have eX:((qM rs)[j]?.getD [])[k]?.getD 0=Zl (qM rs) j k:=rfl;have eY:((qM rs)[k]?.getD [])[j]?.getD 0=Zl (qM rs) k j:=rfl;rw[eX]at hX;rw[eY]at hY;replace hX:=Za hX;replace hY:=Za hY;clear eX eY a7 hR;go_wp2_with fail;obtain⟨X0,a5⟩:∃ X,wk.drew=X:=⟨_,rfl⟩;have Y:Below wk.heap.size wk X0:=by rw[<- a5];exact Zf (Qb _ _) 1
         have O:Hid (∀ wx,Below wk.heap.size wk wx->wx.cell? ⟨g,o+j,none⟩=some (.slice (some ⟨ga,oa,none⟩) n c')/\wx.cell? ⟨ga,oa+k*4,none⟩=some (.bool xn)/\wx.cell? ⟨ga,oa+k*4+1,none⟩=some (.slice xA xk xc)/\wx.cell? ⟨ga,oa+k*4+2,none⟩=some (.bool xm)/\wx.cell? ⟨ga,oa+k*4+3,none⟩=some (.slice xB xj xd)/\wx.cell? ⟨g,o+k,none⟩=some (.slice (some ⟨gb,ob,none⟩) n c2)/\wx.cell? ⟨gb,ob+j*4,none⟩=some (.bool yn)/\wx.cell? ⟨gb,ob+j*4+1,none⟩=some (.slice yA yk yc)/\wx.cell? ⟨gb,ob+j*4+2,none⟩=some (.bool ym)/\wx.cell? ⟨gb,ob+j*4+3,none⟩=some (.slice yB yj yd)):=Za (λwx hbx=>⟨Zb hbx c0,Zb hbx r0,Zb hbx r1,Zb hbx r2,Zb hbx r3,Zb hbx ck,Zb hbx s0,Zb hbx s1,Zb hbx s2,Zb hbx s3⟩);refine wp_heldS [] hmx O (by rw[a5];exact Y) (λhxs=>?_);rw[a5];refine Zje 14 [0,1,2,3,4,5,6,7,8,9,10,11,12,13] rfl (by kernel_rfl) (O.out _ Y) ?_
         iterate 14 (refine tk1 (v:=?_) rfl (Qj ⟨by kernel_rfl,?_⟩) ?_;rotate_left;(· intro W2 hSw;(try dsimp only at hSw);go_simp;try with_reducible rfl);try simp only[Qd,Zgy,Zge,Zgs,putG_a,putG_s,putG_z])
         refine tk0 ?_;obtain⟨z,hz⟩:∃ z,decide (Zl (qM rs) j k=Zl (qM rs) k j)=z:=⟨_,rfl⟩;refine Ze (i:=14) rfl (by kernel_rfl) (λK hK=>?_);go_simp;refine(Zs0 xn xm yn ym xA xB yA yB xk xc xj xd yk yc yj yd _ _ X0 (hX.out.below Y) (hY.out.below Y) z hz).mono ?_;rintro e w5 ⟨rfl,T⟩;have a3:=Y.trans (T.mono Y.size);refine hK.out _ _ (λ_=>O.out _ a3) ?_;clear hK K
         try simp only[Qd,Zgy,Zge,Zgs]
         refine Zgf 1 [15] rfl (by kernel_rfl) (O.out _ a3) ?_
         (refine tk1 (v:=?_) rfl (Qj ⟨by kernel_rfl,?_⟩) ?_;rotate_left;(· intro W2 _;go_simp;try with_reducible rfl);try simp only[Qd,Zgy,Zge,Zgs,putG_a,putG_s,putG_z])
         refine tk0 ?_;refine Zj (by kernel_rfl) ?_ _;refine Qs ?_;have b9:Hid (Below wj.heap.size wj w5):=Za (a2.trans (a3.mono a2.size));clear O hxs Y a3 T a5 r0 r1 r2 r3 s0 s1 s2 s3 ck c0 hX hY;cases z
         ·obtain rfl:E=8:=by
            rw[<- hE.out];refine hV.out.asym ?_;cases hb:Zjg (qM rs)with
            | false=>rfl
            | true=>exact absurd (symB_iff.1 hb j k (by unfold qM;rw[Qi,hl.out];exact a4) (by unfold qM;rw[Qi,hl.out];omega)) (of_decide_eq_false hz)
          replace hz:=Za hz;go_wp2_with fail;go_ret;exact⟨rfl,C.trans (b9.out.mono C.size)⟩
         ·have b3:Hid (∀ b,b<k+1->Zl (qM rs) j b=Zl (qM rs) b j):=Za (λb hb=>by
            rcases Qe b k with h'|h';exact b6.out b h'
            ·obtain rfl:b=k:=by omega
             exact of_decide_eq_true hz)
          replace hz:=Za hz;go_wp2_with fail
          go_roundg (j-(k+1))
          case measure=>omega
          case rel=>exact⟨k+1,by omega,by go_num,b3,b9.out⟩
theorem Zqe(A:Option Addr)(n c:Nat)(rs:List RX)(w:World)(h:MXL w A n c rs)(hF:Zoq rs) :
    Calls Tryz.prog 51 #[.slice A n c] w λe w'=>Below w.heap.size w w'/\((Zco rs=0/\e=.returned (.tuple #[.slice A n c,.int .i64 0])) \/ (Zco rs≠0/\e=.returned (.tuple #[.slice none 0 0,.int .i64 16]))):=by
 obtain⟨E,hE⟩:∃ E,Zco rs=E:=⟨_,rfl⟩;have hC:=Za (Zpf A n c rs w h hF E hE);clear h hF;replace hE:=Za hE;go_enter Tryz.func51,Tryz.ntmps51;go_wp2_with fail;refine hC.out.mono ?_;rintro e w1 ⟨rfl,f⟩;by_cases h0:E=0
 ·subst h0
  go_wp2_with fail;go_returns;exact⟨f,.inl ⟨hE.out,rfl⟩⟩
 ·have t1:(E == 0)=false:=by simpa using h0
  have o:decide (E=0)=false:=by simpa using h0
  have t2:(E != 0)=true:=by rw[bne,t1];rfl
  replace h0:=Za h0;go_wp2_with fail;go_returns;exact⟨f,.inr ⟨by rw[hE.out];exact h0.out,rfl⟩⟩
def OfXR(rs:List RI)(ws:List Int)(X:Nat->Nat->Rat):Prop:=
 ofE rs ws=0->OfP rs ws rs.length (n0I rs) X/\Ze1 (Zl (Z7 (n0I rs) 0 0 (Z5 (Zbz rs ws rs.length (n0I rs)) (n0I rs) (n0I rs) 0) false).1) X (n0I rs) (n0I rs+n0I rs)
theorem rOf_any(A C:Option Addr)(n c k e0:Nat)(rs:List RI)(ws:List Int)(X:Nat->Nat->Rat)(w:World)(h:MIL w A n c rs)(hw:LimI w C k e0 ws)(hX:OfXR rs ws X)(hF:∀ rt,Zf8 rt=Zpl (ofQ X (n0I rs))->Zoq rt) :
    Calls Tryz.prog 11 #[.slice A n c,.slice C k e0] w (OfPost rs ws X w):=by
 have hmx:Tryz.prog.follows .mixedOrders=true:=by kernel_rfl
 have i0:(35:TypeId)≠41:=by decide
 have j5:=h.2.1;have h4:=h.2.2.1;unfold maxLen at h4;have j8:=hw.2.1;have j0:=hw.2.2.1;unfold maxLen at j0;have a8:=Za h.1;replace h:=Za h;replace hw:=Za hw;replace hX:=Za hX;replace hF:=Za hF;go_enter Tryz.func11,Tryz.ntmps11;go_wp2_with fail
 go_loopg [6] n (λt iv wr=>∃ i:Nat,i+t=n/\iv=.int .i64 i/\Hid (∀ j e,j<i->rs[j]?=some e->RI.long6 e=false)/\Hid (Below w.heap.size w wr))
 case atStart=>exact⟨0,by omega,rfl,Za (λj e hj=>by omega),Za (Qb _ _)⟩
 case round =>
  obtain⟨wi,rfl⟩:∃ x:World,x=wr:=⟨_,rfl⟩;obtain⟨i,j9,rfl,c6,f⟩:=hrel;cases gk with
  | succ t =>
   obtain rfl:t=n-(i+1):=by omega
   have hi:i<n:=by omega
   have t1:decide ((i:Int)<(n:Int))=true:=decide_eq_true (by omega);have j2:decide (i<n)=true:=decide_eq_true hi;have bi:(i:Int)<(n:Int):=by omega
   obtain⟨g,o,r,rfl,he,c0,hL⟩:=(h.out.below f.out).at_ hi;have i7:=hL.nlen;unfold maxLen at i7;clear hL;by_cases h6:6<r.n
   ·have t2:decide ((6:Int)<(r.n:Int))=true:=decide_eq_true (by omega)
    have f0:decide (6<r.n)=true:=decide_eq_true h6
    have a4:=Za (Zl0 (ws:=ws) (rs:=rs) (by
     rw[List.any_eq_true];exact⟨r,Qg he,by unfold RI.long6;simpa using h6⟩))
    replace he:=Za he;replace h6:=Za h6;go_wp2_with fail;go_returns;exact OfPost.fall f.out a4.out (by decide)
   ·have t2:decide ((6:Int)<(r.n:Int))=false:=decide_eq_false (by omega)
    have f0:decide (6<r.n)=false:=decide_eq_false h6
    have d7:Hid (∀ j e,j<i+1->rs[j]?=some e->RI.long6 e=false):=Za (λj e' hj he'=>by
     rcases Qe j i with h1|h1;exact c6.out j e' h1 he'
     ·obtain rfl:j=i:=by omega
      rw[he]at he';cases he';unfold RI.long6;exact decide_eq_false h6)
    replace he:=Za he;replace h6:=Za h6;have h2:IntKind.i64.wrap ((i:Int)+1)=(i:Int)+1:=IntWalk.i64_in _ (by omega);go_wp2_with fail
    go_roundg (n-(i+1))
    case measure=>omega
    case rel=>exact⟨i+1,by omega,by go_num,d7,f⟩
  | zero =>
   obtain rfl:i=n:=by omega
   have t1:decide ((i:Int)<(i:Int))=false:=by simp
   have hb:Hid (rs.any RI.long6=false):=Za (by
    rw[Qr];intro e he;obtain⟨j,hj,i9⟩:=Qk he;have:=c6.out j e (by rw[a8.out]at hj;exact hj) (by rw[Qc hj,i9]);rw[this];decide)
   clear c6;replace h:=Za (h.out.below f.out);replace hw:=Za (hw.out.below f.out);obtain⟨E,hE⟩:∃ E,Zc1 rs (Qa (min rs.length 200) 0) ws=E:=⟨_,rfl⟩;by_cases hE0:E=0
   case neg =>
    have a4:=Za (Zow hb.out hE hE0);have b5:Hid (Zc1 rs (Qa (min i 200) 0) ws=E):=Za (by rw[<- a8.out];exact hE);have t1:(E == 0)=false:=by simpa using hE0
    have k1:decide (E=0)=false:=by simpa using hE0
    have j3:(E != 0)=true:=by rw[bne,t1];rfl
    have g5:=Za hE0;replace hE:=Za hE;clear hE0;go_wp2_with fail;refine(Zqx A C i c k e0 rs ws wi h.out hw.out E b5.out g5.out).mono ?_;rintro e w1 ⟨rfl,J⟩;replace h:=Za (h.out.below J);replace hw:=Za (hw.out.below J);have i1:=Za (f.out.trans (J.mono f.out.size));clear f;clear J;go_wp2_with fail;go_returns;exact OfPost.fall i1.out a4.out g5.out
   subst hE0;obtain⟨p1,p2,p3,p4,p5,p6,p7⟩:=Zo1 h.out hE;obtain⟨m,hm⟩:∃ m,n0I rs=m:=⟨_,rfl⟩;have g9:k=i:=by rw[<- hw.out.1,p6]
   subst g9;have b5:Zc1 rs (Qa k 0) ws=0:=by rw[a8.out,Nat.min_eq_left p2]at hE;exact hE
   have d6:Zc1 rs (Qa (min k 200) 0) ws=0:=by rw[a8.out]at hE;exact hE
   have hN:=Za (λW9 (h9:MIL W9 A k c rs) (k9:LimI W9 C k e0 ws)=>Zti A C k c e0 m rs ws W9 h9 k9 p1 p2 (by omega) (by omega) (λr hr=>by rw[p7 r hr,hm]) d6);rw[hm]at p3 p4;have d0:=Za (Zoi (rs:=rs) (rr:=Qa k 0) (ws:=ws) (n:=k) (m:=m) p2 p4 b5);have b2:=Za (And.intro (λhd:Zao m (Zfd rs ws k)=0=>Zo4 hb.out hE (by rw[hm,a8.out];exact hd)) (λhd:Zao m (Zfd rs ws k)≠0=>Zx7 hb.out hE (by rw[hm,a8.out];exact hd)))
   have e6:Hid (Zao m (Zfd rs ws k)≠0->OfP rs ws k m X/\Ze1 (Zl (Z7 m 0 0 (Z5 (Zbz rs ws k m) m m 0) false).1) X m (m+m)):=Za (λhd=>by
    have h9:=hX.out;unfold OfXR at h9;rw[hm,a8.out]at h9;exact h9 (b2.out.2 hd))
   have c9:m<=12:=p4;have i4:0<m:=p3;replace b5:=Za b5;replace d6:=Za d6;replace hE:=Za hE;replace hm:=Za hm;clear p1 p2 p3 p4 p5 p6 p7 hX;go_wp2_with fail;refine(hN.out wi h.out hw.out).mono ?_;rintro e w3 ⟨vN,LN,rfl,J,e3⟩;replace h:=Za (h.out.below J);replace hw:=Za (hw.out.below J);have c8:=Za (f.out.trans (J.mono f.out.size));clear f;clear J;clear h;clear hw;clear hN;have c4:LN.length=m:=by rw[e3.2.1,Zdu]
   obtain⟨gn,capn,rfl,f6,f4,g1⟩:=e3.mat (λe=>by rw[e]at c4;simp at c4;omega);have T:=g1.mfl f6 f4;(try rw[c4]at T);(try rw[Zdu]at T);rw[c4]at f6 ⊢;replace T:=Za T;unfold maxLen at f4;clear e3 g1 c4;obtain⟨o1,o2,o3,o4,o5,o6,o7⟩:=d0.out;have a5:Hid ((Z7 m 0 0 (Z5 (Zbz rs ws k m) m m 0) false).2.1<m->Zao m (Zfd rs ws k)=0):=Za o6;have Y:Hid ((Z7 m 0 0 (Z5 (Zbz rs ws k m) m m 0) false).2.1=m->Zao m (Zfd rs ws k)≠0):=Za (λh9=>(o7 h9).1);have d5:=Za (λW9 (h9:MFL W9 (some ⟨gn,0,none⟩) m capn (Zbz rs ws k m))=>Zne (some ⟨gn,0,none⟩) m capn (Zbz rs ws k m) W9 h9 i4 c9 (λi hi=>Zfe hi) o2 o5 X (λh8=>(e6.out (Y.out h8)).2));clear o1 o2 o3 o4 o5 o6 o7 d0;go_wp2_with fail;refine(d5.out w3 (by first|exact T.out|(rw[Zdu]at *;exact T.out))).mono ?_;rintro e w5 hc;clear d5
   have J:Below w3.heap.size w3 w5:=by
    rcases hc with ⟨-,-,h9⟩|⟨-,v9,L,-,h9,-⟩;exact h9;exact h9
   have e1:Hid (w.heap.size<=w3.heap.size):=Za c8.out.size;clear T;have e7:=Za (c8.out.trans (J.mono c8.out.size));clear c8;clear J;rcases hc with ⟨g6,rfl,-⟩|⟨e5,v9,L,rfl,-,g4,b8⟩
   case inl =>
    have a4:=Za (b2.out.1 (a5.out g6));clear g6 a5 Y;go_wp2_with fail;go_returns;exact OfPost.fall e7.out a4.out (by decide)
   have a4:=Za (b2.out.2 (Y.out e5));have h0:=Za (e6.out (Y.out e5)).1;clear e5 a5 Y e6 b2;have b7:Hid (L.length=m):=Za (by have h9:=congrArg List.length b8;rw[Qi]at h9;rw[h9];unfold Zdz;simp);obtain⟨gO,d4,rfl,g8,i6,g7,f8,f5⟩:=g4.mat i0 (λe=>by have h9:=b7.out;rw[e]at h9;simp at h9;omega);rw[b7.out]at g8;rw[b7.out];unfold maxLen at i6;have u:=Za f8;have h5:Hid (w.heap.size<=gO/\∀ r ∈ L,w.heap.size<=r.g):=Za ⟨Qq e1.out g7,λr hr=>Qq e1.out (f5 r hr)⟩;clear g4 f8 g7 f5 e1
   have e4:Hid (∀ (j:Nat) (r:RF),L[j]?=some r->r.q.length=m):=Za (λj r hr=>by
    have h9:(L.map RF.q)[j]?=some r.q:=by rw[Qf,hr];rfl
    rw[b8]at h9;unfold Zdz at h9;rw[Qf]at h9;obtain⟨x9,-,e9⟩:=Option.map_eq_some_iff.1 h9;rw[<- e9];simp)
   have a6:Hid (∀ j c,j<m->c<m->Zl (L.map RF.q) j c=X j (m+c)):=Za (λj c hj hc=>by
    rw[b8];unfold Zdz Zl;rw[Qf,Qh hj,Qu,Qt,Qf,Qh (by omega)];rfl)
   replace b8:=Za b8;go_wp2_with fail
   go_loopg [11] m (λt iv wr=>∃ (i:Nat) (L2:List RF),i+t=m/\iv=.int .i64 i/\Hid (MatB 35 41 wr gO L2)/\Hid (ScT L L2 m i 0 Zfi)/\Hid (Below w.heap.size w wr))
   case atStart=>exact⟨0,L,by omega,rfl,u,Za (ScT.start b7.out e4.out),e7⟩
   case round =>
    clear u e7;obtain⟨wj,rfl⟩:∃ x:World,x=wr:=⟨_,rfl⟩;obtain⟨i,L2,j7,rfl,u,O,f⟩:=hrel;cases gk with
    | zero =>
     obtain rfl:i=m:=by omega
     have t1:decide ((i:Int)<(i:Int))=false:=by simp
     have i3:Hid (L2.map RF.q=ofQ X i):=Za (by
      rw[O.out.done];unfold ofQ;refine Qp λj hj=>Qp λc hc=>?_;rw[a6.out j c (List.mem_range.1 hj) (List.mem_range.1 hc)])
     have a7:=u.out.mfl O.out.1 g8 (by unfold maxLen;omega);rw[i3.out]at a7;obtain⟨rt,e2,-,b9⟩:=a7.mxs;have e8:=hF.out rt (by rw[hm.out];exact b9);replace a7:=Za a7;replace e2:=Za e2;have f7:=Za (Zqe (some ⟨gO,0,none⟩) i d4 rt wj e2.out e8);clear e8 hF u;go_wp2_with fail;refine f7.out.mono ?_;rintro e w9 ⟨J,d8⟩;replace a7:=Za (a7.out.below J);have f9:=Za (f.out.trans (J.mono f.out.size));clear J f7;rcases d8 with ⟨b1,rfl⟩|⟨b1,rfl⟩
     ·replace b1:=Za b1
      go_wp2_with fail;go_returns;exact⟨f9.out,.inl ⟨a4.out,rt,by rw[hm.out];exact b9,.inl ⟨b1.out,some ⟨gO,0,none⟩,d4,by rw[hm.out];rfl,by rw[hm.out];exact a7.out⟩⟩⟩
     ·replace b1:=Za b1
      go_wp2_with fail;go_returns;exact⟨f9.out,.inl ⟨a4.out,rt,by rw[hm.out];exact b9,.inr ⟨b1.out,rfl⟩⟩⟩
    | succ t' =>
     obtain rfl:t'=m-(i+1):=by omega
     have a1:i<m:=by omega
     have t1:decide ((i:Int)<(m:Int))=true:=decide_eq_true (by omega);have j2:decide (i<m)=true:=decide_eq_true a1;have bi:(i:Int)<(m:Int):=by omega
     have h2:IntKind.i64.wrap ((i:Int)+1)=(i:Int)+1:=IntWalk.i64_in _ (by omega);obtain⟨ri,i5⟩:=Zal (L:=L2) (i:=i) (by rw[O.out.1];exact a1);obtain⟨r0,g0⟩:=Zal (L:=L) (i:=i) (by rw[b7.out];exact a1);have i8:Hid (w.heap.size<=r0.g):=Za (h5.out.2 r0 (Qg g0));clear i5 ri;go_wp2_with fail
     go_loopg [12] m (λt kv wr=>∃ (k9:Nat) (L3:List RF),k9+t=m/\kv=.int .i64 k9/\Hid (MatB 35 41 wr gO L3)/\Hid (ScT L L3 m i k9 Zfi)/\Hid (Below w.heap.size w wr))
     case atStart=>exact⟨0,L2,by omega,rfl,u,O,f⟩
     case round =>
      clear u O f;obtain⟨wk,rfl⟩:∃ x:World,x=wr:=⟨_,rfl⟩;obtain⟨k9,L3,j4,rfl,u,O,f⟩:=hrel;cases gk with
      | zero =>
       obtain rfl:k9=m:=by omega
       have t2:decide ((k9:Int)<(k9:Int))=false:=by simp
       have h7:=Za O.out.next;clear O;go_wp2_with fail
       go_roundg (k9-(i+1))
       case measure=>omega
       case rel=>exact⟨i+1,L3,by omega,by go_num,u,h7,f⟩
      | succ t'' =>
       obtain rfl:t''=m-(k9+1):=by omega
       have a2:k9<m:=by omega
       have t2:decide ((k9:Int)<(m:Int))=true:=decide_eq_true (by omega);have f0:decide (k9<m)=true:=decide_eq_true a2;have bk:(k9:Int)<(m:Int):=by omega
       have j6:IntKind.i64.wrap ((k9:Int)+1)=(k9:Int)+1:=IntWalk.i64_in _ (by omega);obtain⟨r3,a0⟩:=Zal (L:=L3) (i:=i) (by rw[O.out.1];exact a1);have b3:r3.g=r0.g:=Zs5 O.out.2.1 a0 g0;have b4:=O.out.2.2.1 i r3 a0;obtain⟨ci,zi⟩:=u.out.cell a0;rw[b4,b3]at ci;have kc:=(u.out.row a0).2;rw[b4]at kc;have k0:=kc.1;have h3:=kc.2;unfold maxLen at h3;obtain⟨fn,fA,fk,fc,fm,fB,fj,fd,p0,p1,p2,p3,V⟩:=(u.out.row a0).1.at_ (i:=k9) (by rw[b4];exact a2);rw[b3]at p0 p1 p2 p3
       have b6:r3.q[k9]?.getD 0=X i (m+k9):=by
        have h9:=O.out.2.2.2 i k9 a1 a2;rw[if_neg (by omega),Zdf,Zcl a0]at h9;rw[h9];exact a6.out i k9 a1 a2
       rw[b6]at V;have i2:Hid (Sm (X i (m+k9))):=Za (Zwx c9 h0.out a1 a2);replace V:=Za V;replace b6:=Za b6;replace b3:=Za b3;replace b4:=Za b4;clear kc zi;go_wp2_with fail;have I:Below wk.heap.size wk wk.drew:=Zf (Qb _ _) 1;replace u:=Za (u.out.below I);replace V:=Za (V.out.below I);have a9:=Za (f.out.trans (I.mono f.out.size));clear f;replace ci:=Zb I ci;replace p0:=Zb I p0;replace p1:=Zb I p1;replace p2:=Zb I p2;replace p3:=Zb I p3;clear I;refine Z0 [15] (λwx=>(wx.cell? ⟨gO,i,none⟩=some (.slice (some ⟨r0.g,0,none⟩) m r3.c))/\(wx.cell? ⟨r0.g,k9*4,none⟩=some (.bool fn))/\(wx.cell? ⟨r0.g,k9*4+1,none⟩=some (.slice fA fk fc))/\(wx.cell? ⟨r0.g,k9*4+2,none⟩=some (.bool fm))/\(wx.cell? ⟨r0.g,k9*4+3,none⟩=some (.slice fB fj fd))) hmx ⟨ci,p0,p1,p2,p3⟩ (λ_=>?_);refine Zc (i:=0) (v:=?vt1) rfl (by kernel_rfl) (by kernel_rfl) (by kernel_rfl) (by kernel_rfl) (by kernel_rfl) (Qj ⟨by kernel_rfl,?hyt1⟩) ⟨ci,p0,p1,p2,p3⟩ ?rt1
       case hyt1=>(intro W2 hSw;(try dsimp only at hSw);go_simp;try with_reducible rfl)
       try simp only[Qd,Zgy,Zge,Zgs,putG_a,putG_s,putG_z]
       refine Zc (i:=1) (v:=?vt2) rfl (by kernel_rfl) (by kernel_rfl) (by kernel_rfl) (by kernel_rfl) (by kernel_rfl) (Qj ⟨by kernel_rfl,?hyt2⟩) ⟨ci,p0,p1,p2,p3⟩ ?rt2
       case hyt2=>(intro W2 hSw;(try dsimp only at hSw);go_simp;try with_reducible rfl)
       try simp only[Qd,Zgy,Zge,Zgs,putG_a,putG_s,putG_z]
       refine Zc (i:=2) (v:=?vt3) rfl (by kernel_rfl) (by kernel_rfl) (by kernel_rfl) (by kernel_rfl) (by kernel_rfl) (Qj ⟨by kernel_rfl,?hyt3⟩) ⟨ci,p0,p1,p2,p3⟩ ?rt3
       case hyt3=>(intro W2 hSw;(try dsimp only at hSw);go_simp;try with_reducible rfl)
       try simp only[Qd,Zgy,Zge,Zgs,putG_a,putG_s,putG_z]
       refine Zc (i:=3) (v:=?vt4) rfl (by kernel_rfl) (by kernel_rfl) (by kernel_rfl) (by kernel_rfl) (by kernel_rfl) (Qj ⟨by kernel_rfl,?hyt4⟩) ⟨ci,p0,p1,p2,p3⟩ ?rt4
       case hyt4=>(intro W2 hSw;(try dsimp only at hSw);go_simp;try with_reducible rfl)
       try simp only[Qd,Zgy,Zge,Zgs,putG_a,putG_s,putG_z]
       refine Zc (i:=4) (v:=?vt5) rfl (by kernel_rfl) (by kernel_rfl) (by kernel_rfl) (by kernel_rfl) (by kernel_rfl) (Qj ⟨by kernel_rfl,?hyt5⟩) ⟨ci,p0,p1,p2,p3⟩ ?rt5
       case hyt5=>(intro W2 hSw;(try dsimp only at hSw);go_simp;try with_reducible rfl)
       try simp only[Qd,Zgy,Zge,Zgs,putG_a,putG_s,putG_z]
       refine Zc (i:=5) (v:=?vt6) rfl (by kernel_rfl) (by kernel_rfl) (by kernel_rfl) (by kernel_rfl) (by kernel_rfl) (Qj ⟨by kernel_rfl,?hyt6⟩) ⟨ci,p0,p1,p2,p3⟩ ?rt6
       case hyt6=>(intro W2 hSw;(try dsimp only at hSw);go_simp;try with_reducible rfl)
       try simp only[Qd,Zgy,Zge,Zgs,putG_a,putG_s,putG_z]
       refine Zc (i:=6) (v:=?vt7) rfl (by kernel_rfl) (by kernel_rfl) (by kernel_rfl) (by kernel_rfl) (by kernel_rfl) (Qj ⟨by kernel_rfl,?hyt7⟩) ⟨ci,p0,p1,p2,p3⟩ ?rt7
       case hyt7=>(intro W2 hSw;(try dsimp only at hSw);go_simp;try with_reducible rfl)
       try simp only[Qd,Zgy,Zge,Zgs,putG_a,putG_s,putG_z]
       refine Zc (i:=7) (v:=?vt8) rfl (by kernel_rfl) (by kernel_rfl) (by kernel_rfl) (by kernel_rfl) (by kernel_rfl) (Qj ⟨by kernel_rfl,?hyt8⟩) ⟨ci,p0,p1,p2,p3⟩ ?rt8
       case hyt8=>(intro W2 hSw;(try dsimp only at hSw);go_simp;try with_reducible rfl)
       try simp only[Qd,Zgy,Zge,Zgs,putG_a,putG_s,putG_z]
       refine Zc (i:=8) (v:=?vt9) rfl (by kernel_rfl) (by kernel_rfl) (by kernel_rfl) (by kernel_rfl) (by kernel_rfl) (Qj ⟨by kernel_rfl,?hyt9⟩) ⟨ci,p0,p1,p2,p3⟩ ?rt9
       case hyt9=>(intro W2 hSw;(try dsimp only at hSw);go_simp;try with_reducible rfl)
       try simp only[Qd,Zgy,Zge,Zgs,putG_a,putG_s,putG_z]
       refine Zc (i:=9) (v:=?vt10) rfl (by kernel_rfl) (by kernel_rfl) (by kernel_rfl) (by kernel_rfl) (by kernel_rfl) (Qj ⟨by kernel_rfl,?hyt10⟩) ⟨ci,p0,p1,p2,p3⟩ ?rt10
       case hyt10=>(intro W2 hSw;(try dsimp only at hSw);go_simp;try with_reducible rfl)
       try simp only[Qd,Zgy,Zge,Zgs,putG_a,putG_s,putG_z]
       refine Zc (i:=10) (v:=?vt11) rfl (by kernel_rfl) (by kernel_rfl) (by kernel_rfl) (by kernel_rfl) (by kernel_rfl) (Qj ⟨by kernel_rfl,?hyt11⟩) ⟨ci,p0,p1,p2,p3⟩ ?rt11
       case hyt11=>(intro W2 hSw;(try dsimp only at hSw);go_simp;try with_reducible rfl)
       try simp only[Qd,Zgy,Zge,Zgs,putG_a,putG_s,putG_z]
       refine Zc (i:=11) (v:=?vt12) rfl (by kernel_rfl) (by kernel_rfl) (by kernel_rfl) (by kernel_rfl) (by kernel_rfl) (Qj ⟨by kernel_rfl,?hyt12⟩) ⟨ci,p0,p1,p2,p3⟩ ?rt12
       case hyt12=>(intro W2 hSw;(try dsimp only at hSw);go_simp;try with_reducible rfl)
       try simp only[Qd,Zgy,Zge,Zgs,putG_a,putG_s,putG_z]
       refine Ze (i:=12) rfl (by kernel_rfl) (λK hK=>?_);go_simp;refine(Zhz 1000000000000000000 wk.drew (by decide) (by decide)).mono ?_;rintro e d3 ⟨y,sn,sA,sk,sc,sm,sB,sj,sd,rfl,sf⟩;replace u:=Za (u.out.below y);replace V:=Za (V.out.below y);have b0:=Za (a9.out.trans (y.mono a9.out.size));clear a9;replace ci:=Zb y ci;replace p0:=Zb y p0;replace p1:=Zb y p1;replace p2:=Zb y p2;replace p3:=Zb y p3;clear y
       skip
       refine hK.out _ _ (λ_=>⟨ci,p0,p1,p2,p3⟩) ?_;clear hK K
       try simp only[Qd,Zgy,Zge,Zgs,putG_a,putG_s,putG_z]
       replace sf:Hid (Fr d3 sn sA sk sc sm sB sj sd Zfi):=Za sf;refine Ze (i:=13) rfl (by kernel_rfl) (λK hK=>?_);go_simp;refine(Zho fn fA fk fc fm fB fj fd sn sA sk sc sm sB sj sd _ _ d3 V.out sf.out i2.out Zxl).mono ?_;rintro e f3 ⟨y,pn,pA,pk,pc,pm,pB,pj,pd,rfl,pf⟩;replace u:=Za (u.out.below y);replace V:=Za (V.out.below y);replace sf:=Za (sf.out.below y);have c7:=Za (b0.out.trans (y.mono b0.out.size));clear b0;replace ci:=Zb y ci;replace p0:=Zb y p0;replace p1:=Zb y p1;replace p2:=Zb y p2;replace p3:=Zb y p3;clear y;replace pf:=Za pf;refine hK.out _ _ (λ_=>⟨ci,p0,p1,p2,p3⟩) ?_;clear hK K
       try simp only[Qd,Zgy,Zge,Zgs,putG_a,putG_s,putG_z]
       refine Zc (i:=14) (v:=?vt13) rfl (by kernel_rfl) (by kernel_rfl) (by kernel_rfl) (by kernel_rfl) (by kernel_rfl) (Qj ⟨by kernel_rfl,?hyt13⟩) ⟨ci,p0,p1,p2,p3⟩ ?rt13
       case hyt13=>(intro W2 hSw;(try dsimp only at hSw);go_simp;try with_reducible rfl)
       try simp only[Qd,Zgy,Zge,Zgs,putG_a,putG_s,putG_z]
       have c0:=p0;have c1:=p1;have c2:=p2;have c3:=p3;have a3:=(u.out.row a0).1;have z0:=a3.frozen (k9*4);have z1:=a3.frozen (k9*4+1);have z2:=a3.frozen (k9*4+2);have z3:=a3.frozen (k9*4+3);rw[b3.out]at z0 z1 z2 z3;obtain⟨U,hU⟩:∃ U,Zel f3 r0.g k9 pn pA pk pc pm pB pj pd=U:=⟨_,rfl⟩;have g2:=u.out.set_ a0 (k:=k9) (by rw[b4.out];exact a2) pf.out
       have c5:MatB 35 41 U gO (L3.set i ⟨r3.g,r3.c,r3.q.set k9 (X i (m+k9)*Zfi)⟩):=by
        rw[<- hU,<- b3.out];exact g2
       have j1:=Za (O.out.step a0 a1 a2 (x:=X i (m+k9)*Zfi) (by rw[a6.out i k9 a1 a2]));have d9:Below w.heap.size w U:=by rw[<- hU];exact Zgk c7.out i8.out
       unfold Zel at hU;replace c5:=Za c5;replace d9:=Za d9;clear g2 a3;refine Zm (i:=15) rfl (by kernel_rfl) (by kernel_rfl) (λK hK=>?_);go_simp;(try rw[hU]);refine hK.out _ _ ?_;clear hK K
       try simp only[Qd,Zgy,Zge,Zgs,putG_a,putG_s,putG_z]
       refine Zj (by kernel_rfl) ?_ _;refine Qs ?_;clear hU c0 c1 c2 c3 z0 z1 z2 z3 u O sf pf V c7;clear ci p0 p1 p2 p3;go_wp2_with fail
       go_roundg (m-(k9+1))
       case measure=>omega
       case rel=>exact⟨k9+1,_,by omega,by go_num,c5,j1,d9⟩
theorem sigQ_qM{rt:List RX}{Q:List (List Rat)}(h:Zf8 rt=Zpl Q):qM rt=Q:=by
 rw[Ztr,h];unfold Zpl;rw[List.map_map]
 have e:((λx:Nat × List (Nat × Bool × Rat)=>x.2.map λy=>y.2.2) ∘ λr:List Rat=>(r.length,r.map λq=>(fewQ q,true,q)))=id:=by
  funext r
  simp[Function.comp_def]
 rw[e,List.map_id]
section
variable{X:Nat->Nat->Rat}{m:Nat}
theorem Zlb:(ofQ X m).length=m:=by simp[ofQ]
theorem Zt2{i:Nat}(hi:i<m):((ofQ X m)[i]?.getD []).length=m:=by
 unfold ofQ;rw[Qf,Qh hi];simp
theorem ofQ_ent{i j:Nat}(hi:i<m)(hj:j<m):Zl (ofQ X m) i j=X i (m+j)*Zfi:=by
 unfold ofQ Zl;rw[Qf,Qh hi,Qu,Qt,Qf,Qh hj];rfl
theorem Ztz{rt:List RX}{D b e:Nat}(hsig:Zf8 rt=Zpl (ofQ X m))(hD:0<D)(hDe:D<=pw e)(hB:∀ i j,i<m->j<m->BndQ (pw b) ((D:Nat)*(X i (m+j)*Zfi)))(h1:m<=6->(b+1)*m<300)(h2:m<=6->(b+1)*m+e<380):Zoq rt:=λhV hs=>by
 have hq:=sigQ_qM hsig
 have hl:rt.length=m:=by
  have h9:=congrArg List.length hsig;unfold Zf8 Zpl at h9;rw[Qi,Qi,Zlb]at h9;exact h9
 have h6:m<=6:=by have:=hV.facts.2.1;omega
 rw[hl];refine FacP.unif (D:=D) (b:=b) (e:=e) (by rw[hq,Zlb]) (by omega) (λi hi=>by rw[hq];exact Zt2 hi) (λi k hi hk=>symB_iff.1 hs i k (by rw[hq,Zlb];exact hi) (by rw[hq,Zlb];exact hk)) hD hDe (λi j hi=>?_) (h1 h6) (h2 h6);rcases Qe j m with h9|h9;rw[hq,ofQ_ent hi h9];exact hB i j hi h9
 ·have e0:Zl (qM rt) i j=0:=by
    unfold Zl;rw[Qn (by rw[hq,Zt2 hi];exact h9)];rfl
  rw[e0];have e1:((D:Nat):Rat)*0=0:=by grind
  rw[e1];exact BndQ.zero
end
theorem Zx2{rs:List RI}{ws:List Int}(h:ofE rs ws=0):rs.any RI.long6=false/\Zc1 rs (Qa (min rs.length 200) 0) ws=0/\Zao (n0I rs) (Zfd rs ws rs.length)≠0:=by
 cases hb:rs.any RI.long6 with
 | true=>rw[Zl0 hb]at h;exact absurd h (by decide)
 | false =>
  by_cases hE:Zc1 rs (Qa (min rs.length 200) 0) ws=0
  ·refine⟨rfl,hE,λhd=>?_⟩
   rw[Zo4 hb hE hd]at h;exact absurd h (by decide)
  rw[Zow hb rfl hE]at h;exact absurd h hE
theorem Zyt:BndQ (pw 2) Zfi:=⟨1000000000000000000,rfl,by decide +kernel⟩
theorem of_all{w:World}{A:Option Addr}{n c m k:Nat}{rs:List RI}{ws:List Int}(h:MIL w A n c rs)(hG:ModI rs n m k):∃ X,OfX rs ws X/\OfXR rs ws X/\∀ rt,Zf8 rt=Zpl (ofQ X (n0I rs))->Zoq rt:=by
 by_cases h0:ofE rs ws=0
 ·obtain⟨hb,hE,hd⟩:=Zx2 h0
  obtain⟨p1,p2,p3,p4,p5,p6,p7⟩:=Zo1 h hE;have u:rs.length=n:=h.1
  have y:n0I rs<=4:=by
   obtain⟨r,hr⟩:∃ r,rs[0]?=some r:=⟨_,Qc (by omega)⟩;have h1:=(hG.1 0 r p1 (by omega) hr).1;have h2:=p7 r (Qg hr);omega
  obtain⟨o1,o2,o3,o4,o5,o6,o7⟩:=Zoi (rs:=rs) (rr:=Qa (min rs.length 200) 0) (ws:=ws) (n:=rs.length) (m:=n0I rs) (by omega) p4 hE
  have hr:(Z7 (n0I rs) 0 0 (Z5 (Zbz rs ws rs.length (n0I rs)) (n0I rs) (n0I rs) 0) false).2.1=n0I rs:=by
   rcases Qe (Z7 (n0I rs) 0 0 (Z5 (Zbz rs ws rs.length (n0I rs)) (n0I rs) (n0I rs) 0) false).2.1 (n0I rs)with h9|h9;exact absurd (o6 h9) hd;omega
  obtain⟨-,X,x1,x2,x3⟩:=o7 hr;refine⟨X,λ_=>⟨x3,x2⟩,λ_=>⟨x3,x1⟩,λrt hsig=>?_⟩;obtain⟨-,D,d1,d2,d3⟩:=x3;refine Ztz (D:=D) (b:=22) (e:=20) hsig d1 (Qq d2 (Zcn (by omega))) (λi j hi hj=>?_) (λ_=>by omega) (λ_=>by omega);obtain⟨z,hz,o⟩:=d3 j i hj hi
  have f:((D:Nat):Rat)≠0:=λe=>by
   have:D=0:=by exact_mod_cast e
   omega
  have e:((D:Nat):Rat)*(X i (n0I rs+j)*Zfi)=(z:Rat)*Zfi:=by
   rw[hz]
   have e2:((D:Nat):Rat)*((z:Rat)/((D:Nat):Rat))=(z:Rat):=by
    rw[Rat.div_def,<- Qo,Rat.mul_comm ((D:Nat):Rat) (z:Rat),Qo,Rat.mul_inv_cancel _ f,Rat.mul_one]
   rw[<- Qo,e2]
  rw[e];refine(BndQ.mul (⟨z,rfl,o⟩:BndQ (pw (5*n0I rs)) (z:Rat)) Zyt).mono ?_;rw[<- Zhd];exact Zcn (by omega)
 ·refine⟨λ_ _=>0,λh9=>absurd h9 h0,λh9=>absurd h9 h0,λrt hsig=>?_⟩
  refine Ztz (D:=1) (b:=0) (e:=0) hsig (by decide) (by decide) (λi j _ _=>?_) (λ_=>by omega) (λ_=>by omega);have e:((1:Nat):Rat)*(0*Zfi)=0:=by grind
  rw[e];exact BndQ.zero
theorem OfPost.shape{rs:List RI}{ws:List Int}{X:Nat->Nat->Rat}{w w':World}{e:Ending}(h:OfPost rs ws X w e w'):∃ A n c E,e=.returned (.tuple #[.slice A n c,.int .i64 E]):=by
 rcases h with ⟨-,⟨-,rt,-,⟨-,A,c,rfl,hM⟩|⟨-,rfl⟩⟩|⟨-,rfl⟩⟩;exact⟨_,_,_,_,rfl⟩;exact⟨_,_,_,_,rfl⟩;exact⟨_,_,_,_,rfl⟩
theorem OfPost.pair{rs:List RI}{ws:List Int}{X:Nat->Nat->Rat}{w w' v v':World}{A B:Option Addr}{n c m d:Nat}{E E':Int}(h:OfPost rs ws X w (.returned (.tuple #[.slice A n c,.int .i64 E])) w')(k:OfPost rs ws X v (.returned (.tuple #[.slice B m d,.int .i64 E'])) v'):E=E'/\n=m/\∃ D,XM w' A n c D/\XM v' B m d D:=by
 rcases h with ⟨-,⟨h0,rt,hs,h2⟩|⟨h0,e⟩⟩
 ·rcases k with ⟨-,⟨k0,ru,ks,k2⟩|⟨k0,-⟩⟩
  ·have hc:=Zxn (hs.trans ks.symm)
   rcases h2 with ⟨h3,A',c',e,hF⟩|⟨h3,e⟩
   ·rcases k2 with ⟨k3,B',d',e2,kF⟩|⟨k3,-⟩
    ·cases e;cases e2
     exact⟨rfl,rfl,_,hF.xm,kF.xm⟩
    exact absurd (hc▸h3) k3
   ·rcases k2 with ⟨k3,-⟩|⟨k3,e2⟩
    exact absurd (hc.symm▸k3) h3
    ·cases e;cases e2
     exact⟨rfl,rfl,_,XM.nil _,XM.nil _⟩
  exact absurd h0 k0
 ·rcases k with ⟨-,⟨k0,-⟩|⟨k0,e2⟩⟩
  exact absurd k0 h0
  ·cases e;cases e2
   exact⟨rfl,rfl,_,XM.nil _,XM.nil _⟩
theorem Zos(A C:Option Addr)(n c k e0:Nat)(rs:List RI)(w:World)(h:MIL w A n c rs)(hk:k<=maxLen) :
    Calls Tryz.prog 9 #[.slice A n c,.slice C k e0] w λe w'=>∃ b:Bool,e=.returned (.bool b)/\Below w.heap.size w w'/\(b=false->ModI rs n 0 k):=by
 have hC:=Za (Zki A none C n c 0 0 k e0 rs w h (Qm _) hk);go_enter Tryz.func9,Tryz.ntmps9;go_wp2_with fail;refine hC.out.mono ?_;rintro e w1 ⟨b,rfl,hb,hm⟩;go_wp2_with fail;go_returns;exact⟨b,rfl,hb,hm⟩
theorem Zrg(A C:Option Addr)(n c k e0:Nat)(rs:List RI)(ws:List Int)(w:World)(h:MIL w A n c rs)(hw:LimI w C k e0 ws) :
    Calls Tryz.prog 3 #[.slice A n c,.slice C k e0] w λe w'=>e=.returned (.bool true)/\Below w.heap.size w w':=by
 have a2:=h.2.2.1;have a4:=h.2.1;unfold maxLen at a2;have a0:=hw.2.2.1;have a3:=hw.2.1;unfold maxLen at a0;have hG:=Za (Zos A C n c k e0 rs w h (by unfold maxLen;omega));have hA:=Za (λ(hm:ModI rs n 0 k)=>of_all (ws:=ws) h hm);have U:Hid (Below w.heap.size w w):=Za (Qb _ _);replace h:=Za h;replace hw:=Za hw;go_enter Tryz.func3,Tryz.ntmps3;go_wp2_with fail;refine(hG.out).mono ?_;rintro e w1 ⟨b,rfl,f,o⟩;replace h:=Za (h.out.below f);replace hw:=Za (hw.out.below f);have I:=Za (U.out.trans (f.mono U.out.size));clear U;clear f;clear hG;cases b with
 | true =>
  go_wp2_with fail;go_ret;exact⟨rfl,I.out⟩
 | false =>
  obtain⟨X,T,O,u⟩:=hA.out (o rfl);replace T:=Za T;replace O:=Za O;replace u:=Za u;clear o hA;go_wp2_with fail;refine(cOf_any A C n c k e0 rs ws X w1 h.out hw.out T.out u.out).mono ?_;rintro e w3 p;have f:=p.1;obtain⟨pA,pn,pc,pE,rfl⟩:=p.shape;replace p:=Za p;replace h:=Za (h.out.below f);replace hw:=Za (hw.out.below f);have Y:=Za (I.out.trans (f.mono I.out.size));clear I;clear f;go_wp2_with fail;refine(rOf_any A C n c k e0 rs ws X w3 h.out hw.out O.out u.out).mono ?_;rintro e w5 q;have f:=q.1;obtain⟨qA,qn,qc,qE,rfl⟩:=q.shape;replace q:=Za q;replace h:=Za (h.out.below f);replace hw:=Za (hw.out.below f);have V:=Za (Y.out.trans (f.mono Y.out.size));clear Y;obtain⟨e1,e2,D,y,J⟩:=p.out.pair q.out;subst e1 e2;replace y:=Za (y.below f);replace J:=Za J;clear f p q T O u;clear h;clear hw;go_wp2_with fail;refine(Zuo pA qA pn pc qc D w5 y.out J.out).mono ?_;rintro e w7 ⟨rfl,f⟩;have a1:=Za (V.out.trans (f.mono V.out.size));clear V;clear f y J;go_wp2_with fail;go_ret;exact⟨rfl,a1.out⟩
open Go.ChangeShapes Go.WideShapes Go.Deep Go.RowKit
theorem Zya{z:Int}(h:(Lit.int .i64 z).wf=true):I64 z:=by
 simp only[Lit.wf,Bool.and_eq_true,decide_eq_true_eq]at h;exact h
section
variable{H:Type}{enc:TypeId × Value->H}{w:World}{base:Nat}{spare:Nat->Bool}{held:Bool}
theorem Zku{t e:TypeId}{fuel:Nat}{cs:List Value}{x:DataW H × List MemPlace}(ht:Tryz.prog.underlying t=some (.slice e))(he:Tryz.prog.underlying e=some (.int .i64))(hc:Tryz.prog.cellsOf e=1)(h:DataW.trod enc Tryz.prog w base spare held fuel t cs=some x):∃ (A:Option Addr) (n c:Nat) (l:List Int),cs=[.slice A n c]/\LimI w A n c l:=by
 rcases open_ints ht he hc h with ⟨rfl,_⟩|⟨a,len,cap,zs,rfl,_,hl,hm,hz,_,f,u⟩;exact⟨none,0,0,[],rfl,rfl,Qm _,Qm _,by simp,λh=>absurd h (by omega)⟩
 ·have C:len<=zs.length:=by rw[hz];split <;> omega
  refine⟨some a,len,cap,zs.take len,rfl,by simp;omega,hl,hm,λv hv=>Zya (u v (List.mem_of_mem_take hv)),λhn=>?_⟩;have h0:=f 0 (by omega);have hp:=Zmk h0
  obtain⟨b,o,s⟩:∃ b o,a=⟨b,o,none⟩:=by
   obtain⟨b,o,s⟩:=a;refine⟨b,o,?_⟩;unfold Addr.add at hp
   split at hp <;> simp_all
  subst s;refine⟨b,o,rfl,λk hk=>?_⟩;have hc:=f k (by omega);rw[Zh]at hc;rw[hc];have y:k<zs.length:=by omega
  rw[List.getElem?_take,if_pos hk,List.getD_eq_getElem?_getD]
theorem Zsu{r:Reach}{b0:Nat}{v:Value}{d:DataW H}{p:List MemPlace}(hv:Value.okWide Tryz.prog w r b0 23 v)(h:DataW.Trod enc Tryz.prog w base spare held 23 v d p):∃ (A:Option Addr) (n c:Nat) (l:List Int),v=.slice A n c/\LimI w A n c l:=by
 obtain⟨A,n,c,rfl⟩:=okWide_slice Tryz.underlying23 hv;obtain⟨fuel,hf⟩:=h;obtain⟨A',n',c',l,e,hL⟩:=Zku Tryz.underlying23 Tryz.underlying2 (by kernel_rfl) hf;simp[Value.cells]at e;obtain⟨rfl,rfl,rfl⟩:=e;exact⟨A,n,c,l,rfl,hL⟩
theorem Zr8{fuel:Nat}{cs:List Value}{x:DataW H × List MemPlace}(h:DataW.trod enc Tryz.prog w base spare held fuel 22 cs=some x):∃ (A:Option Addr) (n c:Nat) (rs:List RI),cs=[.slice A n c]/\MIL w A n c rs:=by
 have c1:Tryz.prog.cellsOf 23=1:=by kernel_rfl
 rcases open_slice Tryz.underlying22 h with ⟨y,_⟩|⟨a,n,c,m,f,D,Pl,y,_,hl,hm,I,_,hi⟩;exact⟨none,0,0,[],y,rfl,Ql _,Qm _,λe he=>(by cases he),λh=>absurd h (by omega)⟩
 ·have T:n<=m:=by rw[I];split <;> omega
  rw[c1]at hi
  obtain⟨rs,C,u⟩:=Zpb (λi (r:RI)=>w.cell? (a.add i)=some (.slice r.A r.n r.c)/\LimI w r.A r.n r.c r.l) n (λi hin=>by
   obtain⟨O,hc,ht⟩:=hi i (by omega);obtain⟨A,n1,c1,l,rfl,h1⟩:=Zku Tryz.underlying23 Tryz.underlying2 (by kernel_rfl) ht;obtain⟨_,_,J⟩:=World.cells?_some hc;have g0:=J 0 (by simp);rw[Go.Deep.add_add]at g0;exact⟨⟨A,n1,c1,l⟩,by simpa using g0,h1⟩)
  refine⟨some a,n,c,rs,y,C,hl,hm,λr hr=>?_,λhn=>?_⟩
  ·obtain⟨k,hk,rfl⟩:=Qk hr
   exact(u k _ (Qc hk)).2
  ·obtain⟨b,o,rfl⟩:∃ b o,a=⟨b,o,none⟩:=by
     have h0:=u 0 _ (Qc (by omega));have hp:=Zmk h0.1;obtain⟨b,o,s⟩:=a;refine⟨b,o,?_⟩;unfold Addr.add at hp
     split at hp <;> simp_all
   refine⟨b,o,rfl,λk r hk=>?_⟩;have h0:=u k r hk;rw[Zh]at h0;exact h0.1
theorem Zrc{r:Reach}{b0:Nat}{v:Value}{d:DataW H}{p:List MemPlace}(hv:Value.okWide Tryz.prog w r b0 22 v)(h:DataW.Trod enc Tryz.prog w base spare held 22 v d p) :
    ∃ (A:Option Addr) (n c:Nat) (rs:List RI),v=.slice A n c/\MIL w A n c rs:=by
 obtain⟨A,n,c,rfl⟩:=okWide_slice Tryz.underlying22 hv;obtain⟨fuel,hf⟩:=h;obtain⟨A',n',c',rs,e,hM⟩:=Zr8 hf;simp[Value.cells]at e;obtain⟨rfl,rfl,rfl⟩:=e;exact⟨_,_,_,rs,rfl,hM⟩
end
