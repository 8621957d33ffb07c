/- Reference of covar: solve. Reference of covar: zeros, -/
import Derived.Deep.LoopGhost
import Derived.Test.YthappeninglakaaGreatZg20
set_option maxRecDepth 100000
set_option maxHeartbeats 8000000
set_option linter.unusedSimpArgs false
set_option linter.unusedVariables false
namespace Go.Proofs.YthappeninglakaaGreat
open Go.RowKit
open Act renaming put→Qa
open Rat renaming add_le_add_right→Qb,mul_assoc→Qi
open Below renaming refl→Qc
open List renaming getElem?_range→Qd,map_cons→Qe,getElem?_map→Qf,map_nil→Qg,replicate→Qh,not_mem_nil→Qj,length_map→Qk
attribute [local go_sem] Zg
section
variable{Q:List (List Rat)}{xs:List Rat}{n:Nat}
end
section
variable{R:List (List Rat)}{n m:Nat}
end
section
variable{t:TypeId}{w w':World}{g n i:Nat}{x:Nat->Rat}
end
section
variable{Q:List (List Rat)}{n:Nat}
end
def OfXR(rs:List RI)(ws:List Int)(X:Nat->Nat->Rat):Prop:=
 ofE rs ws=0->OfP rs ws rs.length (n0I rs) X/\Zg6 (Zh (Zbd (n0I rs) 0 0 (Zbc (Zc1 rs ws rs.length (n0I rs)) (n0I rs) (n0I rs) 0) false).1) X (n0I rs) (n0I rs+n0I rs)
theorem Zu7{rt:List RX}{Q:List (List Rat)}(h:Zew rt=Ze1 Q):qM rt=Q:=by
 rw[Z03,h];unfold Ze1;rw[List.map_map]
 have e:((λx:Nat × List (Nat × Bool × Rat)=>x.2.map λy=>y.2.2) ∘ λr:List Rat=>(r.length,r.map λq=>(Zp1 q,true,q)))=id:=by
  funext r
  simp[Function.comp_def]
 rw[e,List.map_id]
section
variable{X:Nat->Nat->Rat}{m:Nat}
theorem Zka:(ofQ X m).length=m:=by simp[ofQ]
theorem Zve{i:Nat}(hi:i<m):((ofQ X m)[i]?.getD []).length=m:=by
 unfold ofQ;rw[Qf,Qd hi];simp
theorem ofQ_ent{i j:Nat}(hi:i<m)(hj:j<m):Zh (ofQ X m) i j=X i (m+j)*Zd6:=by
 unfold ofQ Zh;rw[Qf,Qd hi,Option.map_some,Option.getD_some,Qf,Qd hj];rfl
theorem Zu8{rt:List RX}{D b e:Nat}(hsig:Zew rt=Ze1 (ofQ X m))(hD:0<D)(hDe:D<=pw e)(hB:∀ i j,i<m->j<m->BndQ (pw b) ((D:Nat)*(X i (m+j)*Zd6)))(h1:m<=6->(b+1)*m<300)(h2:m<=6->(b+1)*m+e<380):FacC rt:=λhV hs=>by
 have hq:=Zu7 hsig
 have hl:rt.length=m:=by
  have h9:=congrArg List.length hsig;unfold Zew Ze1 at h9;rw[Qk,Qk,Zka]at h9;exact h9
 have h6:m<=6:=by have:=hV.facts.2.1;omega
 rw[hl];refine FacP.unif (D:=D) (b:=b) (e:=e) (by rw[hq,Zka]) (by omega) (λi hi=>by rw[hq];exact Zve hi) (λi k hi hk=>symB_iff.1 hs i k (by rw[hq,Zka];exact hi) (by rw[hq,Zka];exact hk)) hD hDe (λi j hi=>?_) (h1 h6) (h2 h6);rcases Nat.lt_or_ge j m with h9|h9;rw[hq,ofQ_ent hi h9];exact hB i j hi h9
 ·have e0:Zh (qM rt) i j=0:=by
    unfold Zh;rw[List.getElem?_eq_none (by rw[hq,Zve hi];exact h9)];rfl
  rw[e0];have e1:((D:Nat):Rat)*0=0:=by grind
  rw[e1];exact BndQ.zero
end
theorem Zz2{rs:List RI}{ws:List Int}(h:ofE rs ws=0):rs.any RI.long6=false/\Zdx rs (Qh (min rs.length 200) 0) ws=0/\Zau (n0I rs) (Zee rs ws rs.length)≠0:=by
 cases hb:rs.any RI.long6 with
 | true=>rw[Zmj hb]at h;exact absurd h (by decide)
 | false =>
  by_cases hE:Zdx rs (Qh (min rs.length 200) 0) ws=0
  ·refine⟨rfl,hE,λhd=>?_⟩
   rw[Zpy hb hE hd]at h;exact absurd h (by decide)
  rw[Zpp hb rfl hE]at h;exact absurd h hE
theorem Z00:BndQ (pw 2) Zd6:=⟨1000000000000000000,rfl,by decide +kernel⟩
theorem Ztr{w:World}{A:Option Addr}{n c m k:Nat}{rs:List RI}{ws:List Int}(h:MIL w A n c rs)(hG:ModI rs n m k):∃ X,OfX rs ws X/\OfXR rs ws X/\∀ rt,Zew rt=Ze1 (ofQ X (n0I rs))->FacC rt:=by
 by_cases h0:ofE rs ws=0
 ·obtain⟨hb,hE,hd⟩:=Zz2 h0
  obtain⟨p1,p2,p3,p4,p5,p6,p7⟩:=Zvl h hE;have y:rs.length=n:=h.1
  have u:n0I rs<=4:=by
   obtain⟨r,hr⟩:∃ r,rs[0]?=some r:=⟨_,List.getElem?_eq_getElem (by omega)⟩;have h1:=(hG.1 0 r p1 (by omega) hr).1;have h2:=p7 r (List.mem_of_getElem? hr);omega
  obtain⟨o1,o2,o3,o4,o5,o6,o7⟩:=Zuy (rs:=rs) (rr:=Qh (min rs.length 200) 0) (ws:=ws) (n:=rs.length) (m:=n0I rs) (by omega) p4 hE
  have hr:(Zbd (n0I rs) 0 0 (Zbc (Zc1 rs ws rs.length (n0I rs)) (n0I rs) (n0I rs) 0) false).2.1=n0I rs:=by
   rcases Nat.lt_or_ge (Zbd (n0I rs) 0 0 (Zbc (Zc1 rs ws rs.length (n0I rs)) (n0I rs) (n0I rs) 0) false).2.1 (n0I rs)with h9|h9;exact absurd (o6 h9) hd;omega
  obtain⟨-,X,x1,x2,x3⟩:=o7 hr;refine⟨X,λ_=>⟨x3,x2⟩,λ_=>⟨x3,x1⟩,λrt hsig=>?_⟩;obtain⟨-,D,d1,d2,d3⟩:=x3;refine Zu8 (D:=D) (b:=22) (e:=20) hsig d1 (Nat.le_trans d2 (Zb4 (by omega))) (λi j hi hj=>?_) (λ_=>by omega) (λ_=>by omega);obtain⟨z,hz,o⟩:=d3 j i hj hi
  have f:((D:Nat):Rat)≠0:=λe=>by
   have:D=0:=by exact_mod_cast e
   omega
  have e:((D:Nat):Rat)*(X i (n0I rs+j)*Zd6)=(z:Rat)*Zd6:=by
   rw[hz]
   have e2:((D:Nat):Rat)*((z:Rat)/((D:Nat):Rat))=(z:Rat):=by
    rw[Rat.div_def,<- Qi,Rat.mul_comm ((D:Nat):Rat) (z:Rat),Qi,Rat.mul_inv_cancel _ f,Rat.mul_one]
   rw[<- Qi,e2]
  rw[e];refine(BndQ.mul (⟨z,rfl,o⟩:BndQ (pw (5*n0I rs)) (z:Rat)) Z00).mono ?_;rw[<- Zcs];exact Zb4 (by omega)
 ·refine⟨λ_ _=>0,λh9=>absurd h9 h0,λh9=>absurd h9 h0,λrt hsig=>?_⟩
  refine Zu8 (D:=1) (b:=0) (e:=0) hsig (by decide) (by decide) (λi j _ _=>?_) (λ_=>by omega) (λ_=>by omega);have e:((1:Nat):Rat)*(0*Zd6)=0:=by grind
  rw[e];exact BndQ.zero
def Zgu(sg:Int)(m s:Rat)(z:Int):Bool:=if 0<sg then decide ((z:Rat)-m<=0) || decide (((z:Rat)-m)*((z:Rat)-m)<=s)else decide ((z:Rat)-m<=0) && decide (s<=((z:Rat)-m)*((z:Rat)-m))
theorem Zmk{q:Rat}:Zda q.num 0<=0 ↔ q<=0:=by
 have h:(0:Rat)<q ↔ 0<q.num:=⟨λh=>by
  have h1:q.num≠0:=λe=>by rw[Rat.num_eq_zero.1 e]at h;exact absurd h (by decide)
  have h2:=Rat.num_nonneg.2 (Rat.le_of_lt h);omega,λh=>by
  have h1:0<=q:=Rat.num_nonneg.1 (by omega);refine Rat.lt_of_le_of_ne h1 (λe=>?_);rw[<- e]at h;exact absurd h (by decide)⟩
 unfold Zda;rw[<- Rat.not_lt,h]
 split
 ·constructor <;> intro _ <;> omega
 ·split
  ·constructor <;> intro h1 <;> omega
  ·constructor <;> intro _ <;> omega
theorem Zul{q:Rat}:0<=Zda q.num 0 ↔ 0<=q:=by
 rw[<- Rat.num_nonneg];unfold Zda
 split
 ·constructor <;> intro h1 <;> omega
 ·split
  ·constructor <;> intro h1 <;> omega
  ·constructor <;> intro h1 <;> omega
theorem Zqx{a b:Rat}:a-b<=0 ↔ a<=b:=by
 constructor
 ·intro h
  have h2:=Qb (c:=b) |>.2 h;rw[Rat.zero_add]at h2;have e:a-b+b=a:=by grind
  rw[e]at h2;exact h2
 ·intro h
  have h2:=Qb (c:=-b) |>.2 h;have e:b+-b=0:=by grind
  have e2:a+-b=a-b:=by grind
  rw[e,e2]at h2;exact h2
theorem Zq9{a b:Rat}:0<=a-b ↔ b<=a:=by
 constructor
 ·intro h
  have h2:=Qb (c:=b) |>.2 h;rw[Rat.zero_add]at h2;have e:a-b+b=a:=by grind
  rw[e]at h2;exact h2
 ·intro h
  have h2:=Qb (c:=-b) |>.2 h;have e:b+-b=0:=by grind
  have e2:a+-b=a-b:=by grind
  rw[e,e2]at h2;exact h2
theorem Zsg(wn:Bool)(wA:Option Addr)(wk wc:Nat)(z:Int)(gm gs gp:Nat)(mn:Bool)(mA:Option Addr)(mk mc:Nat)(mm:Bool)(mB:Option Addr)(mj md:Nat)(sn:Bool)(sA:Option Addr)(sk sc:Nat)(sm:Bool)(sB:Option Addr)(sj sd:Nat)(sg:Int)(mq sq:Rat)(w:World)(hz:Wd w wn wA wk wc z)(hm:Blk w gm 73 #[.bool mn,.slice mA mk mc,.bool mm,.slice mB mj md])(b2:Fr w mn mA mk mc mm mB mj md mq)(hs:Blk w gs 73 #[.bool sn,.slice sA sk sc,.bool sm,.slice sB sj sd])(a7:Fr w sn sA sk sc sm sB sj sd sq)(hp:Blk w gp 3 #[.int .i64 sg])
    (k1:Sm (z:Rat)) (k2:Sm mq) (k3:Sm ((z:Rat)-mq)) (k4:Sm (((z:Rat)-mq)*((z:Rat)-mq))) (k5:Sm sq) :
    Calls Tryz.prog 117 #[.agg #[.bool wn,.slice wA wk wc],.pointer (some ⟨gm,0,none⟩),.pointer (some ⟨gs,0,none⟩),.pointer (some ⟨gp,0,none⟩)] w λe w'=>e=.returned (.bool (Zgu sg mq sq z))/\Below w.heap.size w w':=by
 obtain⟨iN,hi,o3,p5,o0⟩:=info_parts Zlk;have hmx:=Gt
 obtain⟨d,hd⟩:=Gz ((z:Rat)-mq);have i6:Hid (Zgu sg mq sq z=if 0<sg then decide (d<=0) || decide (d*d<=sq)else decide (d<=0) && decide (sq<=d*d)):=Za (by rw[<- hd];rfl);rw[hd]at k3 k4;replace hd:=Za hd;replace k1:=Za k1;replace k2:=Za k2;replace k3:=Za k3;replace k4:=Za k4;replace k5:=Za k5;obtain⟨V0,l0,q4,b5⟩:=Zq (w:=w) 39 #[.bool wn,.slice wA wk wc];obtain⟨g4,g9⟩:=Gz w.heap.size;rw[g9]at q4;replace hz:=Za (hz.below b5);replace hm:=Za (Zc b5 hm);replace b2:=Za (b2.below b5);replace hs:=Za (Zc b5 hs);replace a7:=Za (a7.below b5);replace hp:=Za (Zc b5 hp);replace b5:=Za b5;replace q4:=Za q4;go_enter Tryz.func117,Tryz.ntmps117;go_wp2_with fail;(try rw[l0]);(try rw[g9]);clear l0;replace g9:=Za g9;have g1:V0.cell? ⟨g4,0,none⟩=some (.bool wn):=q4.out.cell 0;have i0:V0.cell? ⟨g4,1,none⟩=some (.slice wA wk wc):=q4.out.cell 1;have b8:Hid (∀ wx,Below V0.heap.size V0 wx->(wx.cell? ⟨g4,0,none⟩=some (.bool wn))/\(wx.cell? ⟨g4,1,none⟩=some (.slice wA wk wc))):=Za (λwx u=>⟨Zb u g1,Zb u i0⟩);have a1:Below V0.heap.size V0 V0.drew:=Zf (Qc _ _) 1;refine wp_heldS [] hmx b8 a1 (λhxs1=>?_);refine Zjw 1 [0] rfl (by kernel_rfl) (b8.out _ a1) ?_
 (refine tkA ?_;try simp only[Qa,Zg4,Zgk,Zgx,Gr,Gq,Gp])
 refine tk0 ?_;refine Za2 [(1,12),(2,13),(3,10),(4,14),(6,6)] (λi=>match i with|3=>[5]|_=>[]) [(1,12),(2,13),(3,10),(5,15),(4,14),(6,6)] (Zao [(1,nmT 1),(2,frP (z:Rat)),(3,frP (z:Rat)),(5,isV (.int .i64 0)),(4,frV (z:Rat)),(6,newV V0.heap.size 41 #[.bool false,.slice none 0 0,.bool false,.slice none 0 0])]) 2 (by kernel_rfl) (λp _=>Zeh (Zx Zxc (Zx Zog (Zx Zog (Zx Zwv (Zx Zby (Zx Ze9 Ze6)))))) p.1) (λwx h=>b8.out _ (a1.trans (h.mono a1.size))) ?hop1 ?hfin1
 case hop1 =>
  intro p hp;simp only[List.mem_cons,Qj,or_false]at hp;simp only[Qe,Qg,Zap,Qa,Zg4,Zgk,Zgx];rcases hp with rfl|rfl|rfl|rfl|rfl
  ·intro ν wx hb hP
   have u:=a1.trans (hb.mono a1.size);refine Zl (i:=1) rfl (λK hK=>?_);go_simp;refine(Zbf 1 wx (by decide) (by decide)).mono ?_;rintro e w5 ⟨d5,n5,A5,o4,c5,rfl,b7⟩;obtain rfl:n5=false:=by rw[b7.1];decide
   exact hK.out _ _ ⟨_,rfl,(by simp only[Zao];exact⟨_,_,_,rfl,b7⟩),d5,trivial⟩
  ·intro ν wx hb hP
   have u:=a1.trans (hb.mono a1.size);have h1:=hP (1,12) (by simp) (by kernel_rfl);simp only[Zao]at h1;obtain⟨m4,l4,m7,hν1,n1⟩:=h1;rw[hν1];refine Zl (i:=2) rfl (λK hK=>?_);go_simp;refine(Zfi wn wA m4 wk wc l4 m7 z 1 wx (hz.out.below u) n1 (by decide)).mono ?_;rintro e w5 ⟨d5,fn,fA,fk,fc,fm,fB,fj,fd,rfl,b7⟩;rw[Zsl]at b7;exact hK.out _ _ ⟨_,rfl,(by simp only[Zao];exact⟨_,_,_,_,_,_,_,_,rfl,b7⟩),d5,trivial⟩
  ·intro ν wx hb hP
   have u:=a1.trans (hb.mono a1.size);have h2:=hP (2,13) (by simp) (by kernel_rfl);simp only[Zao]at h2;obtain⟨j9,l2,j8,l1,j7,k6,k7,k9,hν2,j1⟩:=h2;rw[hν2];refine Zl (i:=3) rfl (λK hK=>?_);go_simp;refine hK.out _ _ ⟨_,rfl,(by simp only[Zao];exact⟨_,_,_,_,_,_,_,_,rfl,j1⟩),Qc _ _,?_⟩;exact⟨_,.int .i64 0,rfl,Or.inl ⟨by kernel_rfl,λW2 _=>by go_simp⟩,by simp[Zao,isV],trivial⟩
  ·intro ν wx hb hP
   have u:=a1.trans (hb.mono a1.size);have h3:=hP (3,10) (by simp) (by kernel_rfl);simp only[Zao]at h3;obtain⟨p2,o9,p3,o5,o8,n7,n3,p0,hν3,m2⟩:=h3;rw[hν3];refine Zl (i:=4) rfl (λK hK=>?_);go_simp;exact hK.out _ _ ⟨_,rfl,(by simp only[Zao];exact⟨_,_,_,_,_,_,_,_,rfl,m2⟩),Qc _ _,trivial⟩
  ·intro ν wx hb hP
   have u:=a1.trans (hb.mono a1.size);refine Zl (i:=6) rfl (λK hK=>?_);go_simp;exact hK.out _ _ ⟨_,rfl,(by simp only[Zao];exact⟨_,rfl,hb.size,Blk.new _ _ _⟩),(Qc _ _).alloc (Nat.le_refl _) _,trivial⟩
 case hfin1 =>
  intro ν wx hb hP;have h1:=hP (1,12) (by simp);simp only[Zao]at h1;obtain⟨n9,p1,n8,hν1,-⟩:=h1;have h2:=hP (2,13) (by simp);simp only[Zao]at h2;obtain⟨l9,l8,l6,m5,m6,n0,m1,l5,hν2,-⟩:=h2;have h3:=hP (3,10) (by simp);simp only[Zao]at h3;obtain⟨n4,p7,o2,p4,n6,p6,o7,o6,hν3,-⟩:=h3;have h5:=hP (5,15) (by simp);simp only[Zao]at h5;have hν5:ν 15=_:=h5;clear h5;have h4:=hP (4,14) (by simp);simp only[Zao]at h4;obtain⟨i3,g6,h0,i5,g8,h9,h8,g5,hν4,l3⟩:=h4;have h6:=hP (6,6) (by simp);simp only[Zao]at h6;obtain⟨c1,hν6,k0,j2⟩:=h6;simp only[Qe,Qg,Zap,Qa,Zg4,Zgk,Zgx];rw[hν1,hν2,hν3,hν5,hν4,hν6];clear hν1 hν2 hν3 hν5 hν4 hν6 hP ν;have u:=a1.trans (hb.mono a1.size);have a5:=j2.four;have e4:V0.heap.size<=c1:=k0;refine(Zal i3 g6 h0 i5 g8 h9 h8 g5 u e4 j2).elim (λZ1 hq=>?_);have c0:=a5.1;have j0:=a5.2.1;have i9:=a5.2.2.1;have c3:=a5.2.2.2.1;have f0:=a5.2.2.2.2.1;have f1:=a5.2.2.2.2.2.1;have f2:=a5.2.2.2.2.2.2.1;have f3:=a5.2.2.2.2.2.2.2;have hZ:=hq.1;refine wpAnyL_o 7 λK hK=>?_;go_simp;(try rw[hZ]);refine hK.out _ _ (λ_=>b8.out _ hq.2.1) ?_;clear hK K
  try simp only[Qa,Zg4,Zgk,Zgx,Gr,Gq,Gp]
  refine Zgl 1 [8] rfl (by kernel_rfl) (b8.out _ hq.2.1) ?_
  (refine tkA ?_;try simp only[Qa,Zg4,Zgk,Zgx,Gr,Gq,Gp])
  refine tk0 ?_;refine wpAnyL_fin ?_;have a8:=hq.2.1;have c2:=hq.2.2.1;have f4:=Fr.keep l3 hq.2.2.2.1;have n2:=Za e4;clear hq hZ c0 j0 i9 c3 f0 f1 f2 f3 a5 j2 k0 e4 u hb a1 b8 hxs1 l3;replace hz:=Za (hz.out.below a8);replace hm:=Za (Zc a8 hm.out);replace b2:=Za (b2.out.below a8);replace hs:=Za (Zc a8 hs.out);replace a7:=Za (a7.out.below a8);replace hp:=Za (Zc a8 hp.out);replace q4:=Za (Zc a8 q4.out);have i8:=Za (b5.out.trans (a8.mono b5.out.size));clear b5;replace g1:=Zb a8 g1;replace i0:=Zb a8 i0;clear a8;clear g1 i0;replace c2:=Za c2;replace f4:=Za f4;go_wp2_with fail;have g2:Z1.cell? ⟨c1,0,none⟩=some (.bool i3):=c2.out.cell 0;have g7:Z1.cell? ⟨c1,1,none⟩=some (.slice g6 h0 i5):=c2.out.cell 1;have i1:Z1.cell? ⟨c1,2,none⟩=some (.bool g8):=c2.out.cell 2;have i2:Z1.cell? ⟨c1,3,none⟩=some (.slice h9 h8 g5):=c2.out.cell 3;have i4:Z1.cell? ⟨gm,0,none⟩=some (.bool mn):=hm.out.cell 0;have e9:Z1.cell? ⟨gm,1,none⟩=some (.slice mA mk mc):=hm.out.cell 1;have e5:Z1.cell? ⟨gm,2,none⟩=some (.bool mm):=hm.out.cell 2;have e7:Z1.cell? ⟨gm,3,none⟩=some (.slice mB mj md):=hm.out.cell 3
  have c4:Hid (∀ wx,Below Z1.heap.size Z1 wx->(wx.cell? ⟨c1,0,none⟩=some (.bool i3))/\(wx.cell? ⟨c1,1,none⟩=some (.slice g6 h0 i5))/\(wx.cell? ⟨c1,2,none⟩=some (.bool g8))/\(wx.cell? ⟨c1,3,none⟩=some (.slice h9 h8 g5))/\(wx.cell? ⟨gm,0,none⟩=some (.bool mn))/\(wx.cell? ⟨gm,1,none⟩=some (.slice mA mk mc))/\(wx.cell? ⟨gm,2,none⟩=some (.bool mm))/\(wx.cell? ⟨gm,3,none⟩=some (.slice mB mj md))):=Za (λwx u=>⟨Zb u g2,Zb u g7,Zb u i1,Zb u i2,Zb u i4,Zb u e9,Zb u e5,Zb u e7⟩);have a6:Below Z1.heap.size Z1 Z1.drew:=Zf (Qc _ _) 1;refine wp_heldS [] hmx c4 a6 (λhxs2=>?_);refine Zjw 3 [0,1,3] rfl (by kernel_rfl) (c4.out _ a6) ?_
  iterate 3 (refine tkA ?_;try simp only[Qa,Zg4,Zgk,Zgx,Gr,Gq,Gp])
  refine tk0 ?_;refine Za2 [(2,18),(4,20),(5,8)] (λ_=>[]) [(2,18),(4,20),(5,8)] (Zao [(2,frV (z:Rat)),(4,frV d),(5,newV Z1.heap.size 73 #[.bool false,.slice none 0 0,.bool false,.slice none 0 0])]) 1 (by kernel_rfl) (λp _=>Zeh (Zx Zby (Zx Zby (Zx Ze9 Ze6))) p.1) (λwx h=>c4.out _ (a6.trans (h.mono a6.size))) ?hop2 ?hfin2
  case hop2 =>
   intro p hp;simp only[List.mem_cons,Qj,or_false]at hp;simp only[Qe,Qg,Zap,Qa,Zg4,Zgk,Zgx];rcases hp with rfl|rfl|rfl
   ·intro ν wx hb hP
    have u:=a6.trans (hb.mono a6.size);refine Zl (i:=2) rfl (λK hK=>?_);go_simp;refine(Zf6 i3 g8 g6 h9 h0 i5 h8 g5 _ wx (f4.out.below u)).mono ?_;rintro e w5 ⟨d5,fn,fA,fk,fc,fm,fB,fj,fd,rfl,b7⟩;exact hK.out _ _ ⟨_,rfl,(by simp only[Zao];exact⟨_,_,_,_,_,_,_,_,rfl,b7⟩),d5,trivial⟩
   ·intro ν wx hb hP
    have u:=a6.trans (hb.mono a6.size);have h2:=hP (2,18) (by simp) (by kernel_rfl);simp only[Zao]at h2;obtain⟨j9,l2,j8,l1,j7,k6,k7,k9,hν2,j1⟩:=h2;rw[hν2];refine Zl (i:=4) rfl (λK hK=>?_);go_simp;refine(Ze2 j9 j7 mn mm l2 k6 mA mB j8 l1 k7 k9 mk mc mj md _ _ wx j1 (b2.out.below u) k1.out k2.out).mono ?_;rintro e w5 ⟨d5,fn,fA,fk,fc,fm,fB,fj,fd,rfl,b7⟩;rw[hd.out]at b7;exact hK.out _ _ ⟨_,rfl,(by simp only[Zao];exact⟨_,_,_,_,_,_,_,_,rfl,b7⟩),d5,trivial⟩
   ·intro ν wx hb hP
    have u:=a6.trans (hb.mono a6.size);refine Zl (i:=5) rfl (λK hK=>?_);go_simp;exact hK.out _ _ ⟨_,rfl,(by simp only[Zao];exact⟨_,rfl,hb.size,Blk.new _ _ _⟩),(Qc _ _).alloc (Nat.le_refl _) _,trivial⟩
  case hfin2 =>
   intro ν wx hb hP;have h2:=hP (2,18) (by simp);simp only[Zao]at h2;obtain⟨l9,l8,l6,m5,m6,n0,m1,l5,hν2,-⟩:=h2;have h4:=hP (4,20) (by simp);simp only[Zao]at h4;obtain⟨d6,d8,c9,d0,d3,d4,d7,d9,hν4,j4⟩:=h4;have h5:=hP (5,8) (by simp);simp only[Zao]at h5;obtain⟨b9,hν5,j5,j3⟩:=h5;simp only[Qe,Qg,Zap,Qa,Zg4,Zgk,Zgx];rw[hν2,hν4,hν5];clear hν2 hν4 hν5 hP ν;have u:=a6.trans (hb.mono a6.size);have a5:=j3.four;have e4:Z1.heap.size<=b9:=j5;refine(Zal d6 d8 c9 d0 d3 d4 d7 d9 u e4 j3).elim (λZ2 hq=>?_);have c0:=a5.1;have j0:=a5.2.1;have i9:=a5.2.2.1;have c3:=a5.2.2.2.1;have f0:=a5.2.2.2.2.1;have f1:=a5.2.2.2.2.2.1;have f2:=a5.2.2.2.2.2.2.1;have f3:=a5.2.2.2.2.2.2.2;have hZ:=hq.1;refine wpAnyL_o 6 λK hK=>?_;go_simp;(try rw[hZ]);refine hK.out _ _ (λ_=>c4.out _ hq.2.1) ?_;clear hK K
   try simp only[Qa,Zg4,Zgk,Zgx,Gr,Gq,Gp]
   refine wpAnyL_fin ?_;have f:=hq.2.1;have b1:=hq.2.2.1;have b3:=Fr.keep j4 hq.2.2.2.1;have m3:=Za e4;clear hq hZ c0 j0 i9 c3 f0 f1 f2 f3 a5 j3 j5 e4 u hb a6 c4 hxs2 j4;replace hz:=Za (hz.out.below f);replace hm:=Za (Zc f hm.out);replace b2:=Za (b2.out.below f);replace hs:=Za (Zc f hs.out);replace a7:=Za (a7.out.below f);replace hp:=Za (Zc f hp.out);replace q4:=Za (Zc f q4.out);replace c2:=Za (Zc f c2.out);replace f4:=Za (f4.out.below f);have g0:=Za (i8.out.trans (f.mono i8.out.size));clear i8;replace g2:=Zb f g2;replace g7:=Zb f g7;replace i1:=Zb f i1;replace i2:=Zb f i2;replace i4:=Zb f i4;replace e9:=Zb f e9;replace e5:=Zb f e5;replace e7:=Zb f e7;clear f;clear g2 g7 i1 i2 i4 e9 e5 e7;replace b1:=Za b1;replace b3:=Za b3;clear f4 c2 hz k1 k2;go_wp2_with fail;have a0:Z2.cell? ⟨b9,0,none⟩=some (.bool d6):=b1.out.cell 0;have V:Z2.cell? ⟨b9,1,none⟩=some (.slice d8 c9 d0):=b1.out.cell 1;have Y:Z2.cell? ⟨b9,2,none⟩=some (.bool d3):=b1.out.cell 2;have y:Z2.cell? ⟨b9,3,none⟩=some (.slice d4 d7 d9):=b1.out.cell 3;have O:Z2.cell? ⟨gs,0,none⟩=some (.bool sn):=hs.out.cell 0;have T:Z2.cell? ⟨gs,1,none⟩=some (.slice sA sk sc):=hs.out.cell 1;have C:Z2.cell? ⟨gs,2,none⟩=some (.bool sm):=hs.out.cell 2;have J:Z2.cell? ⟨gs,3,none⟩=some (.slice sB sj sd):=hs.out.cell 3
   have I:Below Z2.heap.size Z2 Z2.drew:=Zf (Qc _ _) 1;replace hm:=Za (Zc I hm.out);replace b2:=Za (b2.out.below I);replace hs:=Za (Zc I hs.out);replace a7:=Za (a7.out.below I);replace hp:=Za (Zc I hp.out);replace q4:=Za (Zc I q4.out);replace b1:=Za (Zc I b1.out);replace b3:=Za (b3.out.below I);have f6:=Za (g0.out.trans (I.mono g0.out.size));clear g0;replace a0:=Zb I a0;replace V:=Zb I V;replace Y:=Zb I Y;replace y:=Zb I y;replace O:=Zb I O;replace T:=Zb I T;replace C:=Zb I C;replace J:=Zb I J;clear I;refine Z7 [] (λwx=>(wx.cell? ⟨b9,0,none⟩=some (.bool d6))/\(wx.cell? ⟨b9,1,none⟩=some (.slice d8 c9 d0))/\(wx.cell? ⟨b9,2,none⟩=some (.bool d3))/\(wx.cell? ⟨b9,3,none⟩=some (.slice d4 d7 d9))/\(wx.cell? ⟨gs,0,none⟩=some (.bool sn))/\(wx.cell? ⟨gs,1,none⟩=some (.slice sA sk sc))/\(wx.cell? ⟨gs,2,none⟩=some (.bool sm))/\(wx.cell? ⟨gs,3,none⟩=some (.slice sB sj sd))) hmx ⟨a0,V,Y,y,O,T,C,J⟩ (λ_=>?_);refine Zjw 3 [0,1,4] rfl (by kernel_rfl) ⟨a0,V,Y,y,O,T,C,J⟩ ?_
   iterate 3 (refine tkA ?_;try simp only[Qa,Zg4,Zgk,Zgx,Gr,Gq,Gp])
   refine tk0 ?_;obtain⟨m0,e8⟩:=Gz Z2.drew.heap.size;obtain⟨m8,i7,b6,U⟩:=Zq (w:=Z2.drew) 73 #[.bool d6,.slice d8 c9 d0,.bool d3,.slice d4 d7 d9];rw[e8]at b6;refine wpAnyL_o 2 λK hK=>?_;go_simp;(try rw[e8]);(try rw[i7]);clear i7;replace hm:=Za (Zc U hm.out);replace b2:=Za (b2.out.below U);replace hs:=Za (Zc U hs.out);replace a7:=Za (a7.out.below U);replace hp:=Za (Zc U hp.out);replace q4:=Za (Zc U q4.out);replace b1:=Za (Zc U b1.out);replace b3:=Za (b3.out.below U);have f7:=Za (f6.out.trans (U.mono f6.out.size));clear f6;replace a0:=Zb U a0;replace V:=Zb U V;replace Y:=Zb U Y;replace y:=Zb U y;replace O:=Zb U O;replace T:=Zb U T;replace C:=Zb U C;replace J:=Zb U J;clear U;replace b6:=Za b6;replace e8:=Za e8;refine hK.out _ _ (λ_=>⟨a0,V,Y,y,O,T,C,J⟩) ?_;clear hK K
   try simp only[Qa,Zg4,Zgk,Zgx,Gr,Gq,Gp]
   have c6:=Za (FL.sing1 b6.out b3.out);refine wpAnyL_o 3 λK hK=>?_;go_simp;refine(Zbw d6 d8 c9 d0 d3 d4 d7 d9 _ (some ⟨m0,0,none⟩) 1 1 [d] m8 b3.out c6.out (by decide) (Zdg k3.out) (Zeo k3.out)).mono ?_;rintro e l7 ⟨a4,pn,pA,pk,pc,pm,pB,pj,pd,rfl,pf⟩;replace hm:=Za (Zc a4 hm.out);replace b2:=Za (b2.out.below a4);replace hs:=Za (Zc a4 hs.out);replace a7:=Za (a7.out.below a4);replace hp:=Za (Zc a4 hp.out);replace q4:=Za (Zc a4 q4.out);replace b1:=Za (Zc a4 b1.out);replace b3:=Za (b3.out.below a4);replace b6:=Za (Zc a4 b6.out);replace c6:=Za (c6.out.below a4);have f8:=Za (f7.out.trans (a4.mono f7.out.size));clear f7;replace a0:=Zb a4 a0;replace V:=Zb a4 V;replace Y:=Zb a4 Y;replace y:=Zb a4 y;replace O:=Zb a4 O;replace T:=Zb a4 T;replace C:=Zb a4 C;replace J:=Zb a4 J;clear a4;rw[Zfw]at pf;replace pf:=Za pf;refine hK.out _ _ (λ_=>⟨a0,V,Y,y,O,T,C,J⟩) ?_;clear hK K
   try simp only[Qa,Zg4,Zgk,Zgx,Gr,Gq,Gp]
   refine wpAnyL_o 5 λK hK=>?_;go_simp;refine(Ze2 pn pm sn sm pA pB sA sB pk pc pj pd sk sc sj sd _ _ l7 pf.out a7.out k4.out k5.out).mono ?_;rintro e m9 ⟨a3,rn,rA,rk,rc,rm,rB,rj,rd,rfl,rf⟩;replace hm:=Za (Zc a3 hm.out);replace b2:=Za (b2.out.below a3);replace hs:=Za (Zc a3 hs.out);replace a7:=Za (a7.out.below a3);replace hp:=Za (Zc a3 hp.out);replace q4:=Za (Zc a3 q4.out);replace b1:=Za (Zc a3 b1.out);replace b3:=Za (b3.out.below a3);replace b6:=Za (Zc a3 b6.out);replace c6:=Za (c6.out.below a3);replace pf:=Za (pf.out.below a3);have f9:=Za (f8.out.trans (a3.mono f8.out.size));clear f8;replace a0:=Zb a3 a0;replace V:=Zb a3 V;replace Y:=Zb a3 Y;replace y:=Zb a3 y;replace O:=Zb a3 O;replace T:=Zb a3 T;replace C:=Zb a3 C;replace J:=Zb a3 J;clear a3;replace rf:=Za rf;refine hK.out _ _ (λ_=>⟨a0,V,Y,y,O,T,C,J⟩) ?_;clear hK K
   try simp only[Qa,Zg4,Zgk,Zgx,Gr,Gq,Gp]
   refine wpAnyL_o 6 λK hK=>?_;go_simp;refine(Zhz rn rA rk rc rm rB rj rd _ m9 rf.out).mono ?_;rintro e o1 ⟨rfl,a2⟩;replace hm:=Za (Zc a2 hm.out);replace b2:=Za (b2.out.below a2);replace hs:=Za (Zc a2 hs.out);replace a7:=Za (a7.out.below a2);replace hp:=Za (Zc a2 hp.out);replace q4:=Za (Zc a2 q4.out);replace b1:=Za (Zc a2 b1.out);replace b3:=Za (b3.out.below a2);replace b6:=Za (Zc a2 b6.out);replace c6:=Za (c6.out.below a2);replace pf:=Za (pf.out.below a2);replace rf:=Za (rf.out.below a2);have e6:=Za (f9.out.trans (a2.mono f9.out.size));clear f9;replace a0:=Zb a2 a0;replace V:=Zb a2 V;replace Y:=Zb a2 Y;replace y:=Zb a2 y;replace O:=Zb a2 O;replace T:=Zb a2 T;replace C:=Zb a2 C;replace J:=Zb a2 J;clear a2;refine hK.out _ _ (λ_=>⟨a0,V,Y,y,O,T,C,J⟩) ?_;clear hK K
   try simp only[Qa,Zg4,Zgk,Zgx,Gr,Gq,Gp]
   obtain⟨r2,a6⟩:=Gz (Zda (d*d-sq).num 0);rw[a6];replace a6:=Za a6;refine Zjw 1 [7] rfl (by kernel_rfl) ⟨a0,V,Y,y,O,T,C,J⟩ ?_
   (refine tkA ?_;try simp only[Qa,Zg4,Zgk,Zgx,Gr,Gq,Gp])
   refine tk0 ?_;refine wpAnyL_fin ?_;clear a0 V Y y O T C J;clear c6;clear pf;clear rf;clear hs;clear a7;clear b6;clear k3 k4 k5;have lp:=hp.out.cell 0;simp at lp;have k8:Hid (r2<=0 ↔ d*d<=sq):=Za (by rw[<- a6.out,Zmk,Zqx]);have j6:Hid (0<=r2 ↔ sq<=d*d):=Za (by rw[<- a6.out,Zul,Zq9]);obtain⟨r1,a1⟩:=Gz (Zda d.num 0);have h7:Hid (r1<=0 ↔ d<=0):=Za (by rw[<- a1,Zmk]);replace a1:=Za a1;have o:=i6.out;clear i6;obtain⟨e0,e1,e2,e3,-⟩:=b1.out.four;by_cases c7:0<sg
   case pos =>
    have t0:decide (0<sg)=true:=Gv c7;rw[Gx c7]at o;replace o:=Za o;replace c7:=Za c7;go_wp2_with fail;refine(Zhz d6 d8 c9 d0 d3 d4 d7 d9 _ _ b3.out).mono ?_;rintro e w9 ⟨rfl,f5⟩;rw[a1.out];have c8:=Za (e6.out.trans (f5.mono e6.out.size));clear f5 e0 e1 e2 e3;by_cases h1:r1<=0
    ·have t1:decide (r1<=0)=true:=Gv h1
     have a9:decide (d<=0)=true:=Gv (h7.out.1 h1);replace a9:=Za a9;replace h1:=Za h1;have b0:Hid (Zgu sg mq sq z=true):=Za (by rw[o.out,a9.out];rfl);clear o;go_wp2_with fail;go_ret;exact⟨by rw[b0.out];rfl,c8.out⟩
    ·have t1:decide (r1<=0)=false:=Gu h1
     have a9:decide (d<=0)=false:=Gu (λh=>h1 (h7.out.2 h));replace a9:=Za a9;replace h1:=Za h1;by_cases h2:r2<=0
     ·have t2:decide (r2<=0)=true:=Gv h2
      have b4:=Gv (k8.out.1 h2);replace b4:=Za b4;replace h2:=Za h2;have b0:Hid (Zgu sg mq sq z=true):=Za (by rw[o.out,a9.out,b4.out];rfl);clear o;go_wp2_with fail;go_ret;exact⟨by rw[b0.out];rfl,c8.out⟩
     ·have t2:decide (r2<=0)=false:=Gu h2
      have b4:=Gu (λh=>h2 (k8.out.2 h));replace b4:=Za b4;replace h2:=Za h2;have b0:Hid (Zgu sg mq sq z=false):=Za (by rw[o.out,a9.out,b4.out];rfl);clear o;go_wp2_with fail;go_ret;exact⟨by rw[b0.out];rfl,c8.out⟩
   case neg =>
    have t0:decide (0<sg)=false:=Gu c7;rw[Gw c7]at o;replace o:=Za o;replace c7:=Za c7;go_wp2_with fail;refine(Zhz d6 d8 c9 d0 d3 d4 d7 d9 _ _ b3.out).mono ?_;rintro e w9 ⟨rfl,f5⟩;rw[a1.out];have c8:=Za (e6.out.trans (f5.mono e6.out.size));clear f5 e0 e1 e2 e3;by_cases h1:r1<=0
    ·have t1:decide (r1<=0)=true:=Gv h1
     have a9:decide (d<=0)=true:=Gv (h7.out.1 h1);replace a9:=Za a9;replace h1:=Za h1;by_cases h2:0<=r2
     ·have t2:decide (0<=r2)=true:=Gv h2
      have b4:=Gv (j6.out.1 h2);replace b4:=Za b4;replace h2:=Za h2;have b0:Hid (Zgu sg mq sq z=true):=Za (by rw[o.out,a9.out,b4.out];rfl);clear o;go_wp2_with fail;go_ret;exact⟨by rw[b0.out];rfl,c8.out⟩
     ·have t2:decide (0<=r2)=false:=Gu h2
      have b4:=Gu (λh=>h2 (j6.out.2 h));replace b4:=Za b4;replace h2:=Za h2;have b0:Hid (Zgu sg mq sq z=false):=Za (by rw[o.out,a9.out,b4.out];rfl);clear o;go_wp2_with fail;go_ret;exact⟨by rw[b0.out];rfl,c8.out⟩
    ·have t1:decide (r1<=0)=false:=Gu h1
     have a9:decide (d<=0)=false:=Gu (λh=>h1 (h7.out.2 h));replace a9:=Za a9;replace h1:=Za h1;have b0:Hid (Zgu sg mq sq z=false):=Za (by rw[o.out,a9.out];rfl);clear o;go_wp2_with fail;go_ret;exact⟨by rw[b0.out];rfl,c8.out⟩
