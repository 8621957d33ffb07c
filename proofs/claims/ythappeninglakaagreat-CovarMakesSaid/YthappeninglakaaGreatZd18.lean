/- The reference's first, and Solve. Package linear: Solve. -/
import Derived.Test.YthappeninglakaaGreatZd17
set_option maxRecDepth 100000
set_option maxHeartbeats 8000000
set_option linter.unusedSimpArgs false
set_option linter.unusedVariables false
namespace Go.Proofs.YthappeninglakaaGreat
open Go.RowKit
open Nat renaming le_trans→Qa,le_refl→Qc,lt_of_le_of_lt→Qf,mul_le_mul→Qj,lt_irrefl→Qo,mul_one→Qx
open List renaming getElem?_eq_none→Qb,getElem?_map→Qd,getElem?_range→Qe,replicate→Qg,getElem?_eq_getElem→Qi,length_replicate→Qk,mem_singleton→Qn,ext_getElem?→Qp,getElem?_replicate→Qq,length_append→Qt,getElem?_set→Qu,append_assoc→Qv,getElem_mem→Qy,length_set→Qz,length_map→QA,take_zero→QB
open Act renaming put→Qh
open Option renaming map_some→Ql
open Below renaming refl→Qm
open World renaming cell?_of_block→Qr
open Rat renaming intCast_natCast→Qs
open OnlyNormal renaming normal→Qw
attribute [local go_sem] Zh
def Zfj(n j:Nat):List Rat:=(List.range n).map λk=>if j=k then 1 else 0
def Z5(Q:List (List Rat))(n i t:Nat):List (List Rat):=(List.range n).map λj=>Q[j]?.getD []++if j<i then Zfj n j else if j=i then (Zfj n j).take t else []
theorem Zke(Q:List (List Rat))(n i t:Nat):(Z5 Q n i t).length=n:=by unfold Z5;simp
theorem Zex{Q:List (List Rat)}{n i t j:Nat}(hj:j<n):(Z5 Q n i t)[j]?.getD []=Q[j]?.getD []++if j<i then Zfj n j else if j=i then (Zfj n j).take t else []:=by
 unfold Z5;rw[Qd,Qe hj];rfl
theorem Zto(Q:List (List Rat)):Z5 Q Q.length 0 0=Q:=by
 unfold Z5;apply Qp;intro j;rw[Qd];by_cases hj:j<Q.length;rw[Qe hj,Ql,if_neg (Nat.not_lt_zero _),QB,ite_self,List.append_nil,Qi hj];rfl;rw[Qb (by simpa using hj),Qb (l:=Q) (by omega)];rfl
theorem Zd5(n j:Nat):(Zfj n j).length=n:=by unfold Zfj;simp
theorem Zs1(Q:List (List Rat))(n i:Nat):Z5 Q n i n=Z5 Q n (i+1) 0:=by
 unfold Z5;refine List.map_congr_left λj hj=>?_;congr 1;rcases Nat.lt_trichotomy j i with h|h|h;rw[if_pos h,if_pos (by omega)];subst h;rw[if_neg (Qo _),if_pos rfl,if_pos (by omega),List.take_of_length_le (by rw[Zd5];exact Qc _)];rw[if_neg (by omega),if_neg (by omega),if_neg (by omega),QB,ite_self]
theorem Zoe{Q:List (List Rat)}{n i t:Nat}(hi:i<n)(ht:t<n):(Z5 Q n i t).set i ((Z5 Q n i t)[i]?.getD [] ++ [if i=t then 1 else 0])=Z5 Q n i (t+1):=by
 apply Qp;intro j;rw[Qu,Zke,Zex hi,if_neg (Qo _),if_pos rfl];by_cases hij:i=j
 ·subst hij
  rw[if_pos rfl,if_pos hi];unfold Z5;rw[Qd,Qe hi,Ql,if_neg (Qo _),if_pos rfl,Qv];congr 2;rw[List.take_add_one];congr 1;unfold Zfj;rw[Qd,Qe ht];rfl
 ·rw[if_neg hij]
  unfold Z5;rw[Qd,Qd];by_cases hj:j<n
  ·rw[Qe hj]
   simp only[Ql,Option.some.injEq];congr 1;by_cases h:j<i;rw[if_pos h,if_pos h];rw[if_neg h,if_neg h,if_neg (by omega),if_neg (by omega)]
  rw[Qb (by simpa using hj)];rfl
def InvtR(Q:List (List Rat))(n:Nat)(X:Nat->Nat->Rat)(w:World)(e:Ending)(w':World):Prop:=
 ((Z7 n 0 0 (Z5 Q n n 0) false).2.1<n/\e=.returned (.tuple #[.slice none 0 0,.bool false])/\Below w.heap.size w w') \/
 ((Z7 n 0 0 (Z5 Q n n 0) false).2.1=n/\∃ v L,e=.returned (.tuple #[v,.bool true])/\Below w.heap.size w w'/\MatO 35 41 w' w.heap.size v L/\L.map RF.q=Zdz X n (n+n))
theorem Zne(A:Option Addr)(n c:Nat)(Q:List (List Rat))(w:World)(h:MFL w A n c Q)(hn0:0<n)(hn9:n<=12)(c2:∀ i,i<n->(Q[i]?.getD []).length=n)(d5:okR (pw 200) (pw 200) (n+n) n 0 0 (Z5 Q n n 0))(e2:(Z7 n 0 0 (Z5 Q n n 0) false).2.1<=n)
    (X:Nat->Nat->Rat) (hX:(Z7 n 0 0 (Z5 Q n n 0) false).2.1=n->Ze1 (Zl (Z7 n 0 0 (Z5 Q n n 0) false).1) X n (n+n)) :
    Calls Tryz.prog 48 #[.slice A n c] w (InvtR Q n X w):=by
 have hmx:Tryz.prog.follows .mixedOrders=true:=by kernel_rfl
 have d4:(35:TypeId)≠41:=by decide
 obtain⟨iF,hi,f8,f3,f0⟩:=info_parts Zdg;have f5:=h.1;replace h:=Za h;replace c2:=Za c2;replace d5:=Za d5;replace e2:=Za e2;replace hX:=Za hX;go_enter Tryz.func48,Tryz.ntmps48;go_wp2_with fail;refine(Zpr A n c n Q w h.out (by omega) c2.out (by omega) (by omega)).mono ?_;rintro e w3 ⟨v,f4,rfl,d3,e7⟩;have y:f4.length=n:=by rw[e7.2.1,f5]
 obtain⟨go,cap,rfl,f7,e6,b7⟩:=e7.mat (λe=>by rw[e]at y;simp at y;omega);rw[y]at f7 ⊢;obtain⟨base,b2⟩:∃ x,w.heap.size=x:=⟨_,rfl⟩;rw[b2]at b7;have d0:base<=w3.heap.size:=by rw[<- b2];exact d3.size
 rw[<- Zto Q,f5]at b7;replace b7:=Za b7;replace e6:=Za e6;replace d3:=Za d3;clear e7;go_wp2_with fail
 go_loopg [5] n (λk iv wr=>∃ (i:Nat) (d9:List RS),i+k=n/\iv=.int .i64 i/\Hid (d9.length=n)/\MatA 35 41 wr base go d9 (Z5 Q n i 0)/\Below base w3 wr)
 case atStart=>exact⟨0,f4,by omega,rfl,Za y,b7.out,Qm _ _⟩
 case round =>
  clear b7 y;obtain⟨i,d9,g1,rfl,y,hM,I⟩:=hrel;cases gk with
  | zero =>
   obtain rfl:i=n:=by omega
   have c8:=d3.out.trans (I.mono (by rw[b2];exact Qc _));have t2:decide ((i:Int)<(i:Int))=false:=by simp
   have c1:=hM.mfl (c:=cap) (by rw[y.out];exact f7) e6.out;rw[y.out]at c1
   have d7:∀ j,j<i->((Z5 Q i i 0)[j]?.getD []).length=i+i:=λj hj=>by
    rw[Zex hj,if_pos hj,Qt,c2.out j hj,Zd5]
   replace c1:=Za c1;replace d7:=Za d7;clear hM;go_wp2_with fail;by_cases b8:(Z7 i 0 0 (Z5 Q i i 0) false).2.1<i
   ·replace b8:=Za b8
    refine(Ztl (some ⟨go,0,none⟩) i cap (i+i) (Z5 Q i i 0) wr c1.out (by omega) (by omega) (by omega) (by omega) d7.out d5.out b8.out).mono ?_;rintro e w5 ⟨rfl,e8⟩;go_wp2_with fail;go_returns;exact .inl ⟨b8.out,rfl,c8.trans (e8.mono c8.size)⟩
   ·have e3:Hid ((Z7 i 0 0 (Z5 Q i i 0) false).2.1=i):=Za (Nat.le_antisymm e2.out (Nat.not_lt.1 b8))
    clear b8;refine(Zsj (some ⟨go,0,none⟩) i cap (i+i) (Z5 Q i i 0) wr c1.out (by omega) (by omega) (by omega) (by omega) d7.out d5.out e3.out X (hX.out e3.out)).mono ?_;rintro e w5 ⟨v,L,rfl,e8,c0,f9⟩;replace c0:=Za c0;go_wp2_with fail;go_returns;exact .inr ⟨e3.out,_,L,rfl,c8.trans (e8.mono c8.size),c0.out.base c8.size,f9⟩
  | succ k' =>
   obtain rfl:k'=n-(i+1):=by omega
   have c3:i<n:=by omega
   have t2:decide ((i:Int)<(n:Int))=true:=decide_eq_true (by omega);have bi:(i:Int)<(n:Int):=by omega
   replace hM:=Za hM;replace I:=Za I;go_wp2_with fail
   go_loopg [6] n (λk kv wx=>∃ (t:Nat) (a8:List RS),t+k=n/\kv=.int .i64 t/\Hid (a8.length=n)/\MatA 35 41 wx base go a8 (Z5 Q n i t)/\Below base w3 wx)
   case atStart=>exact⟨0,d9,by omega,rfl,y,hM.out,I.out⟩
   case round =>
    clear hM I y;obtain⟨t,a8,g0,rfl,y,hM,I⟩:=hrel;cases gk with
    | zero =>
     obtain rfl:t=n:=by omega
     have t3:decide ((t:Int)<(t:Int))=false:=by simp
     rw[Zs1]at hM;replace hM:=Za hM;replace I:=Za I;go_wp2_with fail
     go_roundg (t-(i+1))
     case measure=>omega
     case rel=>exact⟨i+1,a8,by omega,by go_num,y,hM.out,I.out⟩
    | succ k2 =>
     obtain rfl:k2=n-(t+1):=by omega
     have f6:t<n:=by omega
     have t3:decide ((t:Int)<(n:Int))=true:=decide_eq_true (by omega);obtain⟨r,hr⟩:=Zal (L:=a8) (i:=i) (by rw[y.out];exact c3);obtain⟨cr,zr⟩:=hM.cell hr
     have d8:((Z5 Q n i t)[i]?.getD []).length+1<=1000:=by
      rw[Zex c3,if_neg (Qo _),if_pos rfl,Qt,c2.out i c3,List.length_take,Zd5];omega
     have u:base<=wr.heap.size:=Qa d0 I.size;replace hM:=Za hM;replace d8:=Za d8;by_cases b6:i=t
     ·skip
      have t4:decide ((i:Int)=(t:Int))=true:=decide_eq_true (by omega);have t5:((i:Int) == (t:Int))=true:=by simp;omega
      replace b6:=Za b6;go_wp2_with fail;obtain⟨X0,b4⟩:∃ X,wr.drew=X:=⟨_,rfl⟩;have a0:Below wr.heap.size wr X0:=by rw[<- b4];exact Zf (Qm _ _) 1
      have f:Hid (∀ wx,Below wr.heap.size wr wx->wx.cell? ⟨go,i,none⟩=some (.slice r.A r.n r.c)):=Za (λwx hbx=>Zb hbx cr);refine wp_heldS [11] hmx f (by rw[b4];exact a0) (λhxs=>?_);rw[b4];refine Zje 7 [0,1,2,3,4,5,6] rfl (by kernel_rfl) (f.out _ a0) ?_
      iterate 7 (refine tk1 (v:=?_) rfl (Or.inl ⟨by kernel_rfl,?_⟩) ?_;rotate_left;(· intro W2 hSw;(try dsimp only at hSw);go_simp;try with_reducible rfl);try simp only[Qh,Zgy,Zge,Zgs,putG_a,putG_s,putG_z])
      refine tk0 ?_;refine Ze (i:=7) rfl (by kernel_rfl) (λK hK=>?_);go_simp;refine(Zhz 1 X0 (by omega) (by omega)).mono ?_;rintro e V ⟨a7,n6,A6,k6,c6,m6,B6,j6,d6,rfl,c4⟩;have a6:Below wr.heap.size wr V:=a0.trans (a7.mono a0.size);refine hK.out _ _ (λ_=>f.out _ a6) ?_;clear hK K
      try simp only[Qh,Zgy,Zge,Zgs]
      obtain⟨Y1,a5⟩:∃ Y,V.alloc (.cells #[.bool n6,.slice A6 k6 c6,.bool m6,.slice B6 j6 d6] 41)=Y:=⟨_,rfl⟩;obtain⟨ga,a9⟩:∃ g,V.heap.size=g:=⟨_,rfl⟩;have b0:Below V.heap.size V Y1:=by rw[<- a5];exact(Qm _ _).alloc (Qc _) _
      have c5:Blk Y1 ga 41 #[.bool n6,.slice A6 k6 c6,.bool m6,.slice B6 j6 d6]:=by rw[<- a5,<- a9];exact Blk.new _ _ _
      have C:Below wr.heap.size wr Y1:=a6.trans (b0.mono a6.size);refine Ze (i:=8) rfl (by kernel_rfl) (λK hK=>?_);go_simp;(try rw[a5]);(try rw[a9]);refine hK.out _ _ (λ_=>f.out _ C) ?_;clear hK K a5 a9
      try simp only[Qh,Zgy,Zge,Zgs]
      have J:=(hM.out).below C;have c7:=c4.below b0;have e5:base<=Y1.heap.size:=Qa u C.size;have b1:=J.2.2.2.1 i r hr;refine Ze (i:=9) rfl (by kernel_rfl) (λK hK=>?_);rw[if_pos (by rfl)];refine Z3 _ (.tmp 30) (.tmp 33) 35 rfl base 41 iF Tryz.underlying35 hi f8 f3 f0 (r).val _ rfl b1 _ (some ⟨ga,0,none⟩) 1 1 [⟨n6,A6,k6,c6,m6,B6,j6,d6,((1:Int):Rat)⟩] rfl (Zay _ c5) rfl (by intro e he;rw[Qn]at he;subst he;exact c7) d8.out e5 ?_;intro v2 Y2 b3 U c9 b9
      obtain⟨nA,nn,nc,rfl⟩:∃ A n c,v2=.slice A n c:=by
       obtain⟨A,c,e,-⟩:=b3.fl;exact⟨_,_,_,e⟩
      have T:=b1.ownBlk
      have O:∀ (g o:Nat) (v:Value),(r).val.ownBlock≠some g->Y1.cell? ⟨g,o,none⟩=some v->Y2.cell? ⟨g,o,none⟩=some v:=λg o v hgg hv=>by
       rw[<- hv];exact Qr (U.block g (Zo hv) (λe=>hgg e.symm))
      have b5:=Za (J.app d4 (i:=i) (r':=⟨nA,nn,nc⟩) hr U b3 c9 b9)
      rw[show (Z5 Q n i t)[i]?.getD []++List.map FE.q [⟨n6,A6,k6,c6,m6,B6,j6,d6,((1:Int):Rat)⟩]=(Z5 Q n i t)[i]?.getD [] ++ [if i=t then 1 else 0] by
       rw[if_pos b6.out];rfl,Zoe c3 f6]at b5
      have a3:r.val.ownBlock≠some go:=λe=>by
       obtain⟨cs,a1,-,-⟩:=T go e;obtain⟨⟨zs,a2⟩,-⟩:=J;exact d4 (a2.type a1)
      have a4:Y2.cell? ⟨go,i,none⟩=some (.slice r.A r.n r.c):=O _ _ _ a3 (f.out _ C);have e1:Hid (Below base w3 (Y2.setCell ⟨go,i,none⟩ (RS.val ⟨nA,nn,nc⟩))):=Za (((I.trans (C.mono u)).grown U (Qa d0 (I.trans (C.mono u)).size) (λk hk=>(T k hk).choose_spec.2.2)).setCell b5.out.2.1 _)
      have e0:Y2.frozen? ⟨go,i,none⟩=false:=by
       rw[World.frozen?_of_block (U.block go (by obtain⟨⟨zs,a2⟩,-⟩:=J;exact a2.lt) (λe=>a3 e.symm))];exact(J.cell hr).2
      refine hK.out _ _ (λ_=>a4) ?_;clear hK K
      try simp only[Qh,Zgy,Zge,Zgs]
      refine Zgf 1 [10] rfl (by kernel_rfl) a4 ?_
      (refine tk1 (v:=?_) rfl (Or.inl ⟨by kernel_rfl,?_⟩) ?_;rotate_left;(· intro W2 _;go_simp;try with_reducible rfl);try simp only[Qh,Zgy,Zge,Zgs,putG_a,putG_s,putG_z])
      refine tk0 ?_;have e9:=a4;have e4:Hid ((a8.set i ⟨nA,nn,nc⟩).length=n):=Za (by rw[Qz];exact y.out);clear a4 b3 T b1 J c7 c5 b0 C O a3;refine Zm (i:=11) rfl (by kernel_rfl) (by kernel_rfl) (λK hK=>?_);go_simp;refine hK.out _ _ ?_;clear hK K
      try simp only[Qh,Zgy,Zge,Zgs]
      refine Zj (by kernel_rfl) ?_ _;refine Qw ?_;clear e9 e0 hxs f a0 a6 a7 c4 cr zr U c9 b9;go_wp2_with fail
      go_roundg (n-(t+1))
      case measure=>omega
      case rel=>exact⟨t+1,_,by omega,by go_num,e4,b5.out,e1.out⟩
     ·skip
      have t4:decide ((i:Int)=(t:Int))=false:=decide_eq_false (by omega);have t5:((i:Int) == (t:Int))=false:=by simp;omega
      replace b6:=Za b6;go_wp2_with fail;obtain⟨X0,b4⟩:∃ X,wr.drew=X:=⟨_,rfl⟩;have a0:Below wr.heap.size wr X0:=by rw[<- b4];exact Zf (Qm _ _) 1
      have f:Hid (∀ wx,Below wr.heap.size wr wx->wx.cell? ⟨go,i,none⟩=some (.slice r.A r.n r.c)):=Za (λwx hbx=>Zb hbx cr);refine wp_heldS [11] hmx f (by rw[b4];exact a0) (λhxs=>?_);rw[b4];refine Zje 7 [0,1,2,3,4,5,6] rfl (by kernel_rfl) (f.out _ a0) ?_
      iterate 7 (refine tk1 (v:=?_) rfl (Or.inl ⟨by kernel_rfl,?_⟩) ?_;rotate_left;(· intro W2 hSw;(try dsimp only at hSw);go_simp;try with_reducible rfl);try simp only[Qh,Zgy,Zge,Zgs,putG_a,putG_s,putG_z])
      refine tk0 ?_;refine Ze (i:=7) rfl (by kernel_rfl) (λK hK=>?_);go_simp;refine(Zhz 0 X0 (by omega) (by omega)).mono ?_;rintro e V ⟨a7,n6,A6,k6,c6,m6,B6,j6,d6,rfl,c4⟩;have a6:Below wr.heap.size wr V:=a0.trans (a7.mono a0.size);refine hK.out _ _ (λ_=>f.out _ a6) ?_;clear hK K
      try simp only[Qh,Zgy,Zge,Zgs]
      obtain⟨Y1,a5⟩:∃ Y,V.alloc (.cells #[.bool n6,.slice A6 k6 c6,.bool m6,.slice B6 j6 d6] 41)=Y:=⟨_,rfl⟩;obtain⟨ga,a9⟩:∃ g,V.heap.size=g:=⟨_,rfl⟩;have b0:Below V.heap.size V Y1:=by rw[<- a5];exact(Qm _ _).alloc (Qc _) _
      have c5:Blk Y1 ga 41 #[.bool n6,.slice A6 k6 c6,.bool m6,.slice B6 j6 d6]:=by rw[<- a5,<- a9];exact Blk.new _ _ _
      have C:Below wr.heap.size wr Y1:=a6.trans (b0.mono a6.size);refine Ze (i:=8) rfl (by kernel_rfl) (λK hK=>?_);go_simp;(try rw[a5]);(try rw[a9]);refine hK.out _ _ (λ_=>f.out _ C) ?_;clear hK K a5 a9
      try simp only[Qh,Zgy,Zge,Zgs]
      have J:=(hM.out).below C;have c7:=c4.below b0;have e5:base<=Y1.heap.size:=Qa u C.size;have b1:=J.2.2.2.1 i r hr;refine Ze (i:=9) rfl (by kernel_rfl) (λK hK=>?_);rw[if_pos (by rfl)];refine Z3 _ (.tmp 30) (.tmp 33) 35 rfl base 41 iF Tryz.underlying35 hi f8 f3 f0 (r).val _ rfl b1 _ (some ⟨ga,0,none⟩) 1 1 [⟨n6,A6,k6,c6,m6,B6,j6,d6,((0:Int):Rat)⟩] rfl (Zay _ c5) rfl (by intro e he;rw[Qn]at he;subst he;exact c7) d8.out e5 ?_;intro v2 Y2 b3 U c9 b9
      obtain⟨nA,nn,nc,rfl⟩:∃ A n c,v2=.slice A n c:=by
       obtain⟨A,c,e,-⟩:=b3.fl;exact⟨_,_,_,e⟩
      have T:=b1.ownBlk
      have O:∀ (g o:Nat) (v:Value),(r).val.ownBlock≠some g->Y1.cell? ⟨g,o,none⟩=some v->Y2.cell? ⟨g,o,none⟩=some v:=λg o v hgg hv=>by
       rw[<- hv];exact Qr (U.block g (Zo hv) (λe=>hgg e.symm))
      have b5:=Za (J.app d4 (i:=i) (r':=⟨nA,nn,nc⟩) hr U b3 c9 b9)
      rw[show (Z5 Q n i t)[i]?.getD []++List.map FE.q [⟨n6,A6,k6,c6,m6,B6,j6,d6,((0:Int):Rat)⟩]=(Z5 Q n i t)[i]?.getD [] ++ [if i=t then 1 else 0] by
       rw[if_neg b6.out];rfl,Zoe c3 f6]at b5
      have a3:r.val.ownBlock≠some go:=λe=>by
       obtain⟨cs,a1,-,-⟩:=T go e;obtain⟨⟨zs,a2⟩,-⟩:=J;exact d4 (a2.type a1)
      have a4:Y2.cell? ⟨go,i,none⟩=some (.slice r.A r.n r.c):=O _ _ _ a3 (f.out _ C);have e1:Hid (Below base w3 (Y2.setCell ⟨go,i,none⟩ (RS.val ⟨nA,nn,nc⟩))):=Za (((I.trans (C.mono u)).grown U (Qa d0 (I.trans (C.mono u)).size) (λk hk=>(T k hk).choose_spec.2.2)).setCell b5.out.2.1 _)
      have e0:Y2.frozen? ⟨go,i,none⟩=false:=by
       rw[World.frozen?_of_block (U.block go (by obtain⟨⟨zs,a2⟩,-⟩:=J;exact a2.lt) (λe=>a3 e.symm))];exact(J.cell hr).2
      refine hK.out _ _ (λ_=>a4) ?_;clear hK K
      try simp only[Qh,Zgy,Zge,Zgs]
      refine Zgf 1 [10] rfl (by kernel_rfl) a4 ?_
      (refine tk1 (v:=?_) rfl (Or.inl ⟨by kernel_rfl,?_⟩) ?_;rotate_left;(· intro W2 _;go_simp;try with_reducible rfl);try simp only[Qh,Zgy,Zge,Zgs,putG_a,putG_s,putG_z])
      refine tk0 ?_;have e9:=a4;have e4:Hid ((a8.set i ⟨nA,nn,nc⟩).length=n):=Za (by rw[Qz];exact y.out);clear a4 b3 T b1 J c7 c5 b0 C O a3;refine Zm (i:=11) rfl (by kernel_rfl) (by kernel_rfl) (λK hK=>?_);go_simp;refine hK.out _ _ ?_;clear hK K
      try simp only[Qh,Zgy,Zge,Zgs]
      refine Zj (by kernel_rfl) ?_ _;refine Qw ?_;clear e9 e0 hxs f a0 a6 a7 c4 cr zr U c9 b9;go_wp2_with fail
      go_roundg (n-(t+1))
      case measure=>omega
      case rel=>exact⟨t+1,_,by omega,by go_num,e4,b5.out,e1.out⟩
theorem Zl6(x y:Value)(W:World):(callFunc 81 #[x,y]).run Tryz.prog W=.ok (.enter 81 #[x,y]) W:=by simp[go_sem]
def FPart(t:TypeId)(w:World)(g:Nat)(qs:List Rat)(rest:Nat):Prop:=∃ es zs:List FE,Blk w g t (Zz (es++zs))/\zs.length=rest/\(∀ e ∈ es,e.in_ w)/\es.map FE.q=qs
section
variable{t:TypeId}{w w':World}{g rest:Nat}{qs:List Rat}
theorem FPart.below(h:FPart t w g qs rest)(hb:Below w.heap.size w w'):FPart t w' g qs rest:=by
 obtain⟨es,zs,h1,h2,h3,h4⟩:=h;exact⟨es,zs,Zd hb h1,h2,λe he=>(h3 e he).below hb,h4⟩
theorem FPart.raw(h:FPart t w g qs rest):FRaw t w g (qs.length+rest):=by
 obtain⟨es,zs,h1,h2,h3,rfl⟩:=h;exact⟨_,h1,by simp[h2]⟩
theorem FPart.own(h:FPart t w g qs 0):FOwn t w g qs:=by
 obtain⟨es,zs,h1,h2,h3,h4⟩:=h;exact⟨es,zs,h1,h3,h4⟩
theorem FPart.push(h:FPart t w g qs (rest+1)){na:Bool}{A:Option Addr}{k c:Nat}{nb:Bool}{B:Option Addr}{m d:Nat}{r:Rat}(hf:Fr w na A k c nb B m d r):FPart t (Zel w g qs.length na A k c nb B m d) g (qs ++ [r]) rest:=by
 obtain⟨es,zs,h1,h2,h3,rfl⟩:=h
 obtain⟨z,f,rfl⟩:∃ z f,zs=z::f:=by
  cases zs with
  | nil=>simp at h2
  | cons z f=>exact⟨z,f,rfl⟩
 have hn:=Zb0 (es++z::f);have h4:=(((h1.set_ (es.length*4) (.bool na)).set_ (es.length*4+1) (.slice A k c)).set_ (es.length*4+2) (.bool nb)).set_ (es.length*4+3) (.slice B m d);have hs:=Zha (es:=es++z::f) (i:=es.length) ⟨na,A,k,c,nb,B,m,d,r⟩ (by simp);dsimp only at hs;rw[hs,List.set_append_right _ _ (Qc _),Nat.sub_self,List.set_cons_zero]at h4;refine⟨es ++ [⟨na,A,k,c,nb,B,m,d,r⟩],f,?_,by simpa using h2,λe he=>?_,by simp⟩;rw[Qv,List.singleton_append,QA];exact h4
 ·rw[QA]
  rcases List.mem_append.1 he with he|he
  ·obtain⟨a,b⟩:=h3 e he
   exact⟨⟨a.1,a.2.1,Zf5 a.2.2 h1 hn⟩,⟨b.1,b.2.1,Zf5 b.2.2 h1 hn⟩⟩
  ·rw[Qn]at he
   subst he;exact⟨⟨hf.1.1,hf.1.2.1,Zf5 hf.1.2.2 h1 hn⟩,⟨hf.2.1,hf.2.2.1,Zf5 hf.2.2.2 h1 hn⟩⟩
end
theorem Zvk{n i:Nat}(hi:i<n):(Qg n (0:Rat)).set i 1=Zfj n i:=by
 unfold Zfj;apply Qp;intro k;rw[Qu,Qk,Qd];by_cases hk:k<n
 ·rw[Qe hk,Qq,if_pos hk,Ql]
  by_cases h:i=k;rw[if_pos h,if_pos hi,if_pos h];rw[if_neg h,if_neg h]
 rw[Qq,if_neg hk,if_neg (by omega),Qb (by simpa using hk)];rfl
theorem Zrf(gx:Nat)(A:Option Addr)(n c i:Nat)(w:World)(hx:Blk w gx 25 #[.slice A n c])(hn9:n<=900)(hin:i<n) :
    Calls Tryz.prog 81 #[.int .i64 i,.pointer (some ⟨gx,0,none⟩)] w λe w'=>∃ A c,e=.returned (.slice A n c)/\Below w.heap.size w w'/\FL w' A n c (Zfj n i):=by
 obtain⟨iF,hi,Y,U,O⟩:=info_parts Zdg;have J:=Zsz (P:=Tryz.prog) 35 41 Tryz.underlying35 hi Y U O (n:Int) n rfl (by omega) w;obtain⟨W0,y⟩:∃ X,w.alloc (.cells (Zz (Qg n Zau)) 41)=X:=⟨_,rfl⟩;obtain⟨g,hg⟩:∃ g,w.heap.size=g:=⟨_,rfl⟩;rw[y,hg]at J;have T:Below g w W0:=by rw[<- y,<- hg];exact(Qm _ _).alloc (Qc _) _
 have C:FPart 41 W0 g [] n:=⟨[],Qg n Zau,by rw[<- y,<- hg];exact Blk.new _ _ _,by simp,λe he=>(by cases he),rfl⟩;have a0:=hx.cell 0;simp at a0;replace C:=Za C;rw[hg];clear y;go_enter Tryz.func81,Tryz.ntmps81;go_wp2_with fail
 go_loopg [11] n (λj kv wr=>∃ k:Nat,k+j=n/\kv=.int .i64 k/\FPart 41 wr g (Qg k 0) (n-k)/\Below g w wr)
 case atStart=>exact⟨0,by omega,rfl,C.out,T⟩
 case round =>
  clear C J;obtain⟨k,a2,rfl,hP,hB⟩:=hrel;cases gk with
  | zero =>
   obtain rfl:k=n:=by omega
   have t1:decide ((k:Int)<(k:Int))=false:=by simp
   rw[Nat.sub_self]at hP;have bi:(i:Int)<(k:Int):=by omega
   have V:(0:Int)<=(i:Int):=by omega
   replace hP:=Za hP;go_wp2_with fail;refine(Ztu 1 1 wr (by decide) (by decide) (by decide) (by decide)).mono ?_;rintro e w2 ⟨u,n6,A6,k6,c6,m6,B6,j6,d6,rfl,o⟩;rw[Zff]at o;have f:=hP.out.below u;have h:(Qg k (0:Rat)).length=k:=Qk ..;obtain⟨x0,x1,x2,x3,x4,x5,x6,x7,y0,y1,y2,y3⟩:=f.raw.cells (i:=i) (by rw[h];omega);have z0:=f.raw.frozen (i*4);have z1:=f.raw.frozen (i*4+1);have z2:=f.raw.frozen (i*4+2);have z3:=f.raw.frozen (i*4+3);obtain⟨Z,hZ⟩:∃ W,Zel w2 g i n6 A6 k6 c6 m6 B6 j6 d6=W:=⟨_,rfl⟩
   have hO:FOwn 41 Z g (Zfj k i):=by
    rw[<- Zvk hin,<- hZ];exact f.own.set_ (by rw[h];exact hin) o
   have I:Below g w Z:=by
    rw[<- hZ];exact Zgk (hB.trans (u.mono (by rw[<- hg];exact hB.size))) (Qc _)
   unfold Zel at hZ;replace hO:=Za hO;clear f o hP;go_wp2_with fail;(try rw[hZ]);go_wp2_with fail;go_ret;have h1:=hO.out.fl (c:=k) (by rw[Zd5];exact Qc _) (by unfold maxLen;omega);rw[Zd5]at h1;exact⟨_,_,rfl,I,h1⟩
  | succ j =>
   obtain rfl:j=n-(k+1):=by omega
   have a1:k<n:=by omega
   have t1:decide ((k:Int)<(n:Int))=true:=decide_eq_true (by omega);have bi:(k:Int)<(n:Int):=by omega
   have V:(0:Int)<=(k:Int):=by omega
   replace hP:=Za hP;go_wp2_with fail;refine(Ztu 0 1 wr (by decide) (by decide) (by decide) (by decide)).mono ?_;rintro e w2 ⟨u,n6,A6,k6,c6,m6,B6,j6,d6,rfl,o⟩;rw[Zff]at o;have f:=hP.out.below u;have h:(Qg k (0:Rat)).length=k:=Qk ..;obtain⟨x0,x1,x2,x3,x4,x5,x6,x7,y0,y1,y2,y3⟩:=f.raw.cells (i:=k) (by rw[h];omega);have z0:=f.raw.frozen (k*4);have z1:=f.raw.frozen (k*4+1);have z2:=f.raw.frozen (k*4+2);have z3:=f.raw.frozen (k*4+3);obtain⟨Z,hZ⟩:∃ W,Zel w2 g k n6 A6 k6 c6 m6 B6 j6 d6=W:=⟨_,rfl⟩
   have hO:FPart 41 Z g (Qg (k+1) 0) (n-(k+1)):=by
    rw[show n-k=n-(k+1)+1 by omega]at f;have h1:=f.push o;rw[h,hZ]at h1;rw[List.replicate_succ'];exact h1
   have I:Below g w Z:=by
    rw[<- hZ];exact Zgk (hB.trans (u.mono (by rw[<- hg];exact hB.size))) (Qc _)
   unfold Zel at hZ;replace hO:=Za hO;clear f o hP;go_wp2_with fail;(try rw[hZ]);go_wp2_with fail
   go_roundg (n-(k+1))
   case measure=>omega
   case rel=>exact⟨k+1,by omega,by go_num,hO.out,I⟩
section
variable{k n m:Nat}{R:List (List Rat)}
end
theorem Zgo{Q:List (List Rat)}{n:Nat}(hrow:∀ i,i<n->(Q[i]?.getD []).length=n)(hq:Q.length=n)(i j:Nat):Zl (Z5 Q n n 0) i j=if i<n then (if j<n then Zl Q i j else if j-n<n then (if i=j-n then 1 else 0)else 0)else 0:=by
 by_cases hi:i<n
 ·rw[if_pos hi]
  unfold Zl;rw[Zex hi,if_pos hi];have hr:=hrow i hi;by_cases hj:j<n;rw[if_pos hj,List.getElem?_append_left (by omega)]
  ·rw[if_neg hj,List.getElem?_append_right (by omega),hr]
   unfold Zfj;rw[Qd];by_cases hjn:j-n<n;rw[if_pos hjn,Qe hjn];rfl;rw[if_neg hjn,Qb (by simp;omega)];rfl
 ·rw[if_neg hi]
  unfold Zl;rw[Qb (l:=Z5 Q n n 0) (by rw[Zke];omega)];rfl
section
variable(rs:List RI)(rr ws:List Int)(x:Nat->Rat)
end
section
variable{rs:List RI}{rr ws:List Int}{x:Nat->Rat}{n m:Nat}
end
def B40(z:Int):Prop:=z.natAbs<=1099511627776
section
variable{D M N:Nat}{q:Rat}
theorem CD.small(h:CD D M q)(hD:0<D):q.num.natAbs<=M/\q.den<=D:=by
 obtain⟨z,e,hz⟩:=h
 have f:((D:Int):Rat)≠0:=by
  intro h0;have:=Rat.intCast_inj.1 (show ((D:Int):Rat)=((0:Int):Rat) by simpa using h0);omega
 have e2:((D:Int):Rat)*q=(z:Rat):=by
  have h2:((D:Int):Rat)=(D:Rat):=Qs D;rw[h2]at f ⊢;rw[e]
  grind
 exact Zfn ⟨z,e2,hz⟩ ⟨(D:Int),rfl,by simp⟩ f
end
theorem Zub{ws:List Int}{a b:Nat->Int}:∀ (n:Nat),(∀ r,r<n->B40 (Zi2 ws r)/\B40 (a r)/\B40 (b r))->(Zbp ws a b n).natAbs<=n*(1099511627776*(1099511627776*1099511627776))
 | 0,_=>by simp[Zbp]
 | n+1,h=>by
  have ih:=Zub n (λr hr=>h r (by omega));obtain⟨h1,h2,h3⟩:=h n (by omega)
  have h4:((Zi2 ws n)*(a n*b n)).natAbs<=1099511627776*(1099511627776*1099511627776):=by
   rw[Int.natAbs_mul,Int.natAbs_mul];exact Qj h1 (Qj h2 h3)
  have h5:Zbp ws a b (n+1)=Zbp ws a b n+Zi2 ws n*(a n*b n):=rfl;rw[h5,Nat.succ_mul];exact Qa (Int.natAbs_add_le _ _) (Nat.add_le_add ih h4)
theorem Zv7:200*(1099511627776*(1099511627776*1099511627776))<=pw 4:=by decide +kernel
theorem Zxy{ws:List Int}{a b:Nat->Int}{n:Nat}(hn:n<=200)(h:∀ r,r<n->B40 (Zi2 ws r)/\B40 (a r)/\B40 (b r)):(Zbp ws a b n).natAbs<=pw 4:=
 Qa (Zub n h) (Qa (Qj hn (Qc _)) Zv7)
theorem Zw4{a b i j:Nat}(ha:a<=pw i)(hb:b<=pw j):a*b<=pw (i+j):=by rw[Zhd];exact Qj ha hb
theorem k_pw{n:Nat}(h:n<=4294967296):n<=pw 1:=by
 have:pw 1=4294967296:=by decide +kernel
 rw[this];exact h
theorem Zyr{rs:List RI}{ws:List Int}{n m i:Nat}(h:i<m):(Zbz rs ws n m)[i]?.getD []=Zfg rs ws n m i:=by
 unfold Zbz Zfg;rw[Qd,Qe h];rfl
theorem b40_out{least x:Int}(h:Zia least x=false)(h0:-1099511627776<=least):B40 x:=by
 unfold Zia at h;simp only[Bool.or_eq_false_iff,decide_eq_false_iff_not]at h;unfold B40;omega
theorem Zlq{least:Int}{l:List Int}(h:Zem least l=false)(h0:-1099511627776<=least)(i:Nat):B40 (l[i]?.getD 0):=by
 unfold Zem at h;rw[List.any_eq_false]at h;by_cases hi:i<l.length
 ·rw[Qi hi]
  exact b40_out (by simpa using h _ (Qy hi)) h0
 ·rw[Qb (by omega)]
  show (0:Int).natAbs<=_;decide
theorem sys_b40{rs:List RI}{rr ws:List Int}(h:Zc1 rs rr ws=0):(∀ r k,B40 (Zb8 rs k r))/\(∀ r,B40 (Zi2 rr r))/\∀ r,B40 (Zi2 ws r):=by
 obtain⟨f1,f2,f3,f4,f5,f6,f7,f8⟩:=Zii h;refine⟨λr k=>?_,λr=>Zlq f7 (by decide) r,λr=>Zlq f6 (by decide) r⟩;unfold Zb8;by_cases hr:r<rs.length
 ·rw[Qi hr]
  exact Zlq (f8 _ (Qy hr)).2 (by decide) k
 ·rw[Qb (l:=rs) (i:=r) (by omega)]
  show (0:Int).natAbs<=_;decide
def Zfd(rs:List RI)(ws:List Int)(n:Nat):Nat->Nat->Rat:=λi j=>((Zbp ws (Zb8 rs i) (Zb8 rs j) n:Int):Rat)
section
variable{rs:List RI}{rr ws:List Int}{n m:Nat}
theorem BndQ.den{B:Nat}{q:Rat}(h:BndQ B q):q.den=1:=by
 obtain⟨z,rfl,-⟩:=h;exact Rat.den_intCast z
theorem BndQ.num{B:Nat}{q:Rat}(h:BndQ B q):q.num.natAbs<=B:=by
 obtain⟨z,rfl,hz⟩:=h;rw[Rat.num_intCast];exact hz
end
theorem Zo8{B:Nat}{R:List (List Rat)}(h:∀ i j,BndQ B (Zl R i j))(i k:Nat):Zaw (R[i]?.getD []) k=1:=by
 have h1:=Zwv (R[i]?.getD []) (D:=1) (λj=>by
  have:=(h i j).den;unfold Zl at this;rw[this];exact Qc _) k
 have h2:=Zd6 (R[i]?.getD []) k;rw[Nat.one_pow]at h1;omega
theorem Zwc{B:Nat}{R:List (List Rat)}(h:∀ i j,BndQ B (Zl R i j))(i j:Nat):(Zae (Z6 R) i j).natAbs<=B:=by
 have h1:=Zis R i j;obtain⟨z,hz,hb⟩:=h i j;have hd:Zc8 R i=1:=Zo8 h i _;rw[hd,hz]at h1
 have h2:((Zae (Z6 R) i j:Int):Rat)=(z:Rat):=by
  rw[h1];have:((1:Nat):Rat)=1:=rfl;rw[this];grind
 rw[Rat.intCast_inj.1 h2];exact hb
theorem Zpj{b n m:Nat}{R:List (List Rat)}(h:∀ i j,BndQ (pw b) (Zl R i j))(hl:R.length=n)(hn:n<=900)(hrow:∀ i,i<n->(R[i]?.getD []).length=m)(hnm:n<=m)(h1:(b+1)*n<189)(hb:b<900) :
    okZ (pw 200) m n 0 0 (Z6 R) 1/\okR (pw 200) (pw 200) m n 0 0 R/\Zqd R n m/\(Zan n 0 0 (Z6 R) false 1).2.1=(Z7 n 0 0 R false).2.1/\(Z7 n 0 0 R false).2.1<=n /\
    ((Z7 n 0 0 R false).2.1<n->Zao n (Zl R)=0) /\
    ((Z7 n 0 0 R false).2.1=n->Zao n (Zl R)≠0/\∃ X:Nat->Nat->Rat,Ze1 (Zl (Z7 n 0 0 R false).1) X n m/\Ze1 (λi j=>(Zae (Zan n 0 0 (Z6 R) false 1).1 i j:Rat)) X n m/\SolQ (Zl R) X n m):=by
 have e:=Zla (b:=b) n hn;obtain⟨B,hB⟩:∃ B,Zbf (pw b) n=B:=⟨_,rfl⟩;rw[hB]at e;obtain⟨d,hd⟩:∃ d,(b+1)*n=d:=⟨_,rfl⟩;rw[hd]at e h1;have bb:B*B<=pw (d+d):=Zw4 e e
 have g1:(n+1)*(B*B)<pw 400:=by
  have h6:(n+1)*(B*B)<=pw (1+(d+d)):=Zw4 (k_pw (by omega)) bb;exact Qf h6 (Zfm (by omega))
 have g2:B*B*1<pw 400:=by rw[Qx];exact Qf bb (Zfm (by omega))
 have g3:B*1<pw 300:=by rw[Qx];exact Qf e (Zfm (by omega))
 have hs:=Zth (B:=pw b) (S:=1) (Zc2 _) (Qc _) R hl hrow (λi hi=>Nat.le_of_eq (Zo8 h i _)) (λi j _=>Zwc h i j) hnm (by rw[hB];exact g1) (by rw[hB];exact g2) (by rw[hB];exact g3);rw[hB,Qx]at hs;obtain⟨o1,o2,o3,o4,o5,o6⟩:=hs;have p1:B+1<=pw 200:=Qa (Nat.add_le_add e (Zc2 d)) (Qa (Zsd d) (Zcn (by omega)));have p2:B<pw 200:=p1;refine⟨Zm5 p2 _ _ _ _ _ o1,Zl5 p2 p2 _ _ _ _ o2,⟨λi t hi ht=>?_,λi j=>?_⟩,o3,o4,o5,λhr=>?_⟩;rw[Zo8 h];exact Nat.lt_of_lt_of_le Zd7 (Zcn (by decide));exact Qf (h i j).num (Zfm (by omega))
 ·obtain⟨q1,X,q2,q3,q4,-⟩:=o6 hr
  exact⟨q1,X,q2,q3,q4⟩
section
variable{rs:List RI}{rr ws:List Int}{n m:Nat}
end
theorem Zo1{w:World}{A:Option Addr}{n c:Nat}{rs:List RI}{rr ws:List Int}(h:MIL w A n c rs)(hE:Zc1 rs rr ws=0):0<n/\n<=200/\0<n0I rs/\n0I rs<=12/\rr.length=n/\ws.length=n/\∀ r ∈ rs,r.n=n0I rs:=by
 obtain⟨f1,f2,f3,f4,f5,f6,f7,f8⟩:=Zii hE;have hl:=h.1
 have e:0<n:=by
  rcases Nat.eq_zero_or_pos n with h0|h0
  ·exfalso
   have:rs=[]:=List.eq_nil_of_length_eq_zero (by omega);subst this;exact f3 rfl
  exact h0
 have f:n0I rs<=12:=by
  obtain⟨_,_,r0,_,o,_⟩:=h.at_ (i:=0) e;have h1:=List.mem_of_getElem? o;rw[<- (f8 r0 h1).1];exact f2 r0 h1
 exact⟨e,by omega,by omega,f,by omega,by omega,λr hr=>(f8 r hr).1⟩
def Zai(A:Nat->Nat->Rat):Nat->Nat->Nat->Rat
 | 0,i,k=>A i k
 | t+1,i,k=>if t<i then Zai A t i k-Zai A t i t/Zai A t t t*Zai A t t k else Zai A t i k
theorem Zl2{A:Nat->Nat->Rat}{i k:Nat}:∀ {t:Nat},i<=t->Zai A t i k=Zai A i i k
 | 0,h=>by rw[show i=0 by omega]
 | t+1,h=>by
  by_cases hit:i=t+1;rw[hit]
  ·show (if t<i then _ else _)=_
   rw[if_neg (by omega)];exact Zl2 (by omega)
theorem Zit{A:Nat->Nat->Rat}{t i k:Nat}(h:t<i):Zai A (t+1) i k=Zai A t i k-Zai A t i t/Zai A t t t*Zai A t t k:=by
 show (if t<i then _ else _)=_;rw[if_pos h]
theorem Zgu{A:Nat->Nat->Rat}{n:Nat}(hA:∀ i k,i<n->k<n->A i k=A k i):∀ (t i k:Nat),t<=i->t<=k->i<n->k<n->Zai A t i k=Zai A t k i
 | 0,i,k,_,_,hi,hk=>hA i k hi hk
 | t+1,i,k,h1,h2,hi,hk=>by
  rw[Zit (by omega),Zit (by omega),Zgu hA t i k (by omega) (by omega) hi hk,Zgu hA t i t (by omega) (by omega) hi (by omega),Zgu hA t t k (by omega) (by omega) (by omega) hk];rw[Rat.div_def,Rat.div_def]
  grind
theorem Zen{A C:Nat->Nat->Rat}{n m:Nat}(h:∀ i k,i<n->k<m->A i k=C i k)(hnm:n<=m):∀ (t i k:Nat),t<=n->i<n->k<m->Zai A t i k=Zai C t i k
 | 0,i,k,_,hi,hk=>h i k hi hk
 | t+1,i,k,ht,hi,hk=>by
  show (if t<i then _ else _)=(if t<i then _ else _);rw[Zen h hnm t i k (by omega) hi hk,Zen h hnm t i t (by omega) hi (by omega),Zen h hnm t t t (by omega) (by omega) (by omega),Zen h hnm t t k (by omega) (by omega) hk]
def dQ(A:Nat->Nat->Rat)(i:Nat):Rat:=Zai A i i i
def lQ(A:Nat->Nat->Rat)(i k:Nat):Rat:=Zai A k i k/dQ A k
theorem Zp6{A:Nat->Nat->Rat}{n:Nat}(hA:∀ i k,i<n->k<n->A i k=A k i){t i k:Nat}(ht:t<k)(hk:k<=i)(hi:i<n)(hd:dQ A t≠0) :
    Zai A (t+1) i k=Zai A t i k-lQ A i t*lQ A k t*dQ A t:=by
 rw[Zit (by omega),Zgu hA t t k (by omega) (by omega) (by omega) (by omega)];unfold lQ dQ at *
 grind
def Zgb(R:List (List Rat)):Nat->List (List Rat)
 | 0=>R
 | t+1=>Za3 (Zgb R t) t t
theorem Zhk(R:List (List Rat)):∀ t,(Zgb R t).length=R.length
 | 0=>rfl
 | t+1=>by
  show (Za3 _ _ _).length=_;rw[Ze6];exact Zhk R t
def posP(A:Nat->Nat->Rat)(n:Nat):Prop:=∀ t,t<n->0<dQ A t
theorem posP.mono{A:Nat->Nat->Rat}{n m:Nat}(h:posP A n)(hm:m<=n):posP A m:=λt ht=>h t (by omega)
theorem posP.ne{A:Nat->Nat->Rat}{n:Nat}(h:posP A n){t:Nat}(ht:t<n):dQ A t≠0:=λh0=>by have:=h t ht;rw[h0]at this;exact absurd this (by decide)
section
variable{B S n m:Nat}{R:List (List Rat)}
theorem Zkc{pc:Nat->Nat}{G:Nat->Nat->Rat}{s:Nat->Rat}(h0:EIR B S n m 0 0 R pc G s):∀ t,t<=n->t<=m->posP (Zl R) t->(∃ pc,EIR B S n m t t (Zgb R t) pc G s)/\∀ i k,i<n->Zl (Zgb R t) i k=Zai (Zl R) t i k
 | 0,_,_,_=>⟨⟨_,h0⟩,λi k _=>rfl⟩
 | t+1,hn,hm,hp=>by
  obtain⟨⟨pc,h1⟩,h2⟩:=Zkc h0 t (by omega) (by omega) (hp.mono (by omega));have h0:Zl (Zgb R t) t t≠0:=by rw[h2 t t (by omega)];exact hp.ne (by omega)
  refine⟨⟨_,h1.clear (by omega) (by omega) h0⟩,λi k hi=>?_⟩;show Zl (Za3 (Zgb R t) t t) i k=if t<i then _ else _;rw[Zgl (m:=m) (λi hi=>h1.row i (by rw[h1.len]at hi;exact hi)) (λj hj=>h1.low t j (Qc _) (by omega) hj) i k (by rw[h1.len];exact hi) (by rw[h1.len];omega)]
  by_cases hti:t<i;rw[if_neg (by omega),if_pos hti,h2 i k hi,h2 i t hi,h2 t t (by omega),h2 t k (by omega)];rw[if_pos (by omega),if_neg hti,h2 i k hi]
theorem Zrt{D:Nat}(hl:R.length=n)(hrow:∀ i,i<n->(R[i]?.getD []).length=m)(hD:0<D)(hB:∀ i j,i<n->BndQ B ((D:Nat)*Zl R i j)):EIR B D n m 0 0 R (λ_=>0) (λi j=>(D:Nat)*Zl R i j) (λ_=>(D:Nat)):=by
 refine⟨hl,hrow,λl h=>by omega,λl l' _ h=>by omega,λi j _ _ h=>by omega,λl j h=>by omega,λl h=>by omega,Nat.zero_le _,Nat.zero_le _,λi hi=>⟨⟨(D:Nat),by rw[Qs],by rw[Int.natAbs_natCast];exact Qc _⟩,λh0=>?_⟩,λi j hi=>hB i j hi,λN f σ _ _ _=>rfl⟩;have:D=0:=by exact_mod_cast h0
 omega
end
section
variable{k n m:Nat}{R:List (List Rat)}
end
structure FacP (A:Nat->Nat->Rat) (n:Nat):Prop where
 sym:∀ i k,i<n->k<n->A i k=A k i
 s:∀ t i k,t<=n->posP A t->i<n->k<n->SmN 380 380 (Zai A t i k)
 l:∀ i k,k<=i->i<n->posP A (k+1)->SmN 300 300 (lQ A i k)
section
variable{A:Nat->Nat->Rat}{n:Nat}
theorem FacP.d(h:FacP A n){k:Nat}(hk:k<n)(hp:posP A k):SmN 380 380 (dQ A k):=h.s k k k (by omega) hp hk hk
theorem FacP.ll(h:FacP A n){i j k:Nat}(hki:k<=i)(hi:i<n)(hkj:k<=j)(hj:j<n)(hp:posP A (k+1)):SmN 600 600 (lQ A i k*lQ A j k):=((h.l i k hki hi hp).mulN (h.l j k hkj hj hp)).mono (by decide) (by decide)
theorem FacP.lld(h:FacP A n){i j k:Nat}(hki:k<=i)(hi:i<n)(hkj:k<=j)(hj:j<n)(hp:posP A (k+1)):SmN 980 980 (lQ A i k*lQ A j k*dQ A k):=((h.ll hki hi hkj hj hp).mulN (h.d (show k<n by omega) (hp.mono (by omega)))).mono (by decide) (by decide)
end
theorem FacP.unif{n D b e:Nat}{R:List (List Rat)}(hl:R.length=n)(hn:n<=900)(hrow:∀ i,i<n->(R[i]?.getD []).length=n)(hA:∀ i k,i<n->k<n->Zl R i k=Zl R k i)(hD:0<D)(hDe:D<=pw e)(hB:∀ i j,i<n->BndQ (pw b) ((D:Nat)*Zl R i j))
    (h1:(b+1)*n<300) (h2:(b+1)*n+e<380):FacP (Zl R) n:=by
 have h0:=Zrt hl hrow hD hB;have hb:=Zla (b:=b) n hn
 have o:((D:Nat):Rat)≠0:=λh=>by
  have:D=0:=by exact_mod_cast h
  omega
 refine⟨hA,λt i j ht hp hi _=>?_,λi k hki hi hp=>?_⟩
 ·obtain⟨⟨pc,h3⟩,h4⟩:=Zkc h0 t ht ht hp
  obtain⟨h5,h6⟩:=h3.bound (Zc2 _) hi j;rw[h4 i j hi]at h5 h6;refine⟨Qf (Qa h5 hb) (Zfm (by omega)),?_⟩;refine Qf (Qa h6 (Qj hb hDe)) ?_;rw[<- Zhd];exact Zfm (by omega)
 ·obtain⟨⟨pc,h3⟩,h4⟩:=Zkc h0 k (by omega) (by omega) (hp.mono (by omega))
  have m1:=h3.minor hi k;have m2:=h3.minor (show k<n by omega) k;rw[show min i k=k by omega,h4 i k hi]at m1;rw[Nat.min_self,h4 k k (by omega)]at m2;have hd:Zai (Zl R) k k k≠0:=hp.ne (by omega);have f:=h3.piv_ne (l:=k) (Qc _)
  have e1:Zei (Zgb R k) pc (λ_=>((D:Nat):Rat)) k*(((D:Nat):Rat)*Zai (Zl R) k k k)*lQ (Zl R) i k=Zei (Zgb R k) pc (λ_=>((D:Nat):Rat)) k*(((D:Nat):Rat)*Zai (Zl R) k i k):=by
   unfold lQ dQ
   grind
  rw[<- e1]at m1
  obtain⟨h5,h6⟩:=Zfn m1 m2 (λh=>by
   rcases Rat.mul_eq_zero.1 h with h7|h7;exact f h7
   ·rcases Rat.mul_eq_zero.1 h7 with h8|h8
    exact o h8
    ·exact hd h8)
  have hm:=Zcs (B:=pw b) (m:=k+1) (n:=n) (Zc2 _) (by omega);exact⟨Qf (Qa h5 (Qa hm hb)) (Zfm (by omega)),Qf (Qa h6 (Qa hm hb)) (Zfm (by omega))⟩
