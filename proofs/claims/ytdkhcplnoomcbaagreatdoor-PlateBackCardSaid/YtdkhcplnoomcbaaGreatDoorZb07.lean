/- Reference of frac: Reduced. Reference of frac: Make, Of, -/
import Derived.Maps.AppendAt
import Derived.Test.YtdkhcplnoomcbaaGreatDoorZb06
set_option maxRecDepth 100000
set_option maxHeartbeats 1000000
set_option linter.unusedSimpArgs false
set_option linter.unusedVariables false
namespace Go.Proofs.YtdkhcplnoomcbaaGreatDoor
open Go.RowKit
open List renaming mem_cons_of_mem→Qa,mem_cons_self→Qb,all_eq_true→Qe,replicate→Qf,length_map→Qj,length_cons→Ql,getElem?_append_left→Qn,length_append→Qp,filter_cons_of_neg→Qq,filter_cons_of_pos→Qr,getElem?_eq_none→Qs,eq_nil_of_length_eq_zero→Qx,getElem?_eq_getElem→QA,getElem?_replicate→QC,filter_eq_nil_iff→QE,ext_getElem?→QL,getElem?_map→QM,getElem_mem→QP,nil_append→QR,range→QS,foldl_cons→QT,mem_filter→QU
open _root_.Array renaming getD_eq_getD_getElem?→Qc,getElem?_eq_getElem→Qh,getElem?_setIfInBounds_self→Qi,getElem?_setIfInBounds→Qk,setIfInBounds_comm→QB,getElem?_eq_none→QD
open Bool renaming and_eq_true→Qd,not_eq_true'→Qg,or_eq_true→Qw
open Nat renaming add_sub_cancel'→Qm,zero_add→Qv,lt_of_lt_of_le→QG,add_right_comm→QH,le_refl→QN,le_add_right→QO
open And renaming intro→Qo
open Ne renaming symm→Qt
open Rat renaming divInt→Qu,intCast_natCast→Qy,num_divInt_den→Qz,divInt_eq_div→QJ,intCast_mul→QQ
open World renaming cell?_of_block→QF
open Act renaming put→QI
open Builtin renaming zeroCells→QK
attribute [local go_sem] Zf
theorem Zof(na:Bool)(A B:Option Addr)(n c m d:Nat)(za zb:Int)(w:World)(ha:Wd w na A n c za)(hb:Wd w false B m d zb)(h0:0<zb) :
    Calls Tryz.prog 89 #[.agg #[.bool na,.slice A n c],.agg #[.bool false,.slice B m d]] w (Ze9 w (Qu za zb)):=by
 have e5:=Zfd ha.small hb.small;have hx:=Zb (Zj9 (a:=za) (b:=zb) Gk);have hy:=Zb (Zj2 (a:=za) (b:=zb) Gk);have J:=Zb (Znu (a:=za) (b:=zb) Gk);have b3:Zga za zb=(Nat.gcd za.natAbs zb.natAbs:Nat):=by unfold Zga;rw[Gw Gk]
 rw[b3]at hx hy J;have HA:=Zb ha;have HB:=Zb hb;obtain⟨G,hG⟩:=Gz (Nat.gcd za.natAbs zb.natAbs);rw[hG]at hx hy J e5
 have HGc:Hid (∀ W:World,Wd W na A n c za->Wd W false B m d zb->Calls Tryz.prog 71 #[.agg #[.bool na,.slice A n c],.agg #[.bool false,.slice B m d]] W (ResW W (G:Int))):=λW h1 h2=>by
  have:=Zoc na false A B n c m d za zb W h1 h2;rw[hG]at this;exact this
 generalize Qu za zb=R at *;clear ha hb hG b3;have a4:∀ X Y Z:Obj,Below w.heap.size w (((w.alloc X).alloc Y).alloc Z):=λX Y Z=>(((Below.refl w.heap.size w).alloc (QN _) _).alloc Gh _).alloc Gg _;have a4:=Zb a4;go_in;go_wp2_with fail;have q0:Blk (((w.alloc (.cells #[.bool na,.slice A n c] 30)).alloc (.cells #[.bool false,.slice B m d] 30)).alloc (.cells #[.bool false,.slice none 0 0,.bool false,.slice none 0 0] 32)) w.heap.size 30 #[.bool na,.slice A n c]:=((Blk.new _ _ _).alloc _).alloc _
 have q1:Blk (((w.alloc (.cells #[.bool na,.slice A n c] 30)).alloc (.cells #[.bool false,.slice B m d] 30)).alloc (.cells #[.bool false,.slice none 0 0,.bool false,.slice none 0 0] 32)) (w.heap.size+1) 30 #[.bool false,.slice B m d]:=by
  exact Cx
 have q2:Blk (((w.alloc (.cells #[.bool na,.slice A n c] 30)).alloc (.cells #[.bool false,.slice B m d] 30)).alloc (.cells #[.bool false,.slice none 0 0,.bool false,.slice none 0 0] 32)) (w.heap.size+1+1) 32 #[.bool false,.slice none 0 0,.bool false,.slice none 0 0]:=by
  exact Cw
 refine(HGc.out _ (((HA.out.alloc _).alloc _).alloc _) (((HB.out.alloc _).alloc _).alloc _)).mono ?_;rintro e w1 ⟨u,ng,Ag,kg,cg,code,rfl,hR⟩;rcases hR with ⟨-,rfl,b1⟩|⟨e2,-⟩
 case inr=>exact absurd e2 Gk
 have I:Below w.heap.size w w1:=(a4.out _ _ _).trans (u.mono Gg);have b2:=Zb (HA.out.below I);have d7:=Zb (HB.out.below I);have s1:w.heap.size+1+1<w1.heap.size:=by have:=u.size;simp at this;omega
 replace q0:=Zc u q0;replace q1:=Zc u q1;replace q2:=Zc u q2;have d4:=Zb b1;have s2:w.heap.size+1+1<w1.heap.size:=s1;clear u b1;obtain⟨W3,E,b4,q3,kW,kB,s3⟩:=Zap 30 #[.bool ng,.slice Ag kg cg] I Gk;replace q0:=kB _ _ _ q0;replace q1:=kB _ _ _ q1;replace q2:=kB _ _ _ q2;have d0:=Zb (kW _ _ _ _ _ b2.out);have d3:=Zb (kW _ _ _ _ _ d7.out);have a7:=Zb (kW _ _ _ _ _ d4.out);have s4:w.heap.size+1+1<w1.heap.size:=s2;clear kW kB b2 d7 d4 I;have c0:=Zb q0.two;have c1:=Zb q1.two;have c3:=Zb q3.two;rw[<- E]at c0 c1 c3;obtain⟨e4,e6,-,-⟩:=c0.out;obtain⟨a0,a6,-,-⟩:=c1.out;obtain⟨U,O,-,-⟩:=c3.out;have hq:=Zb (Qo q0 (Qo q1 (Qo q2 q3)));clear q0 q1 q2 q3;replace E:=Zb E;go_wp2_with fail;rw[E.out];refine(Zk6 na ng A Ag n c kg cg za G _ d0.out a7.out J.out).mono ?_;rintro e w4 ⟨f,nx,Ax,kx,cx,nr,Ar,kr,cr,rfl,a2,-⟩;rw[hx.out]at a2;have b6:Below w.heap.size w w4:=b4.trans (f.mono Gk);have d8:=Zb (d3.out.below f);have c6:=Zb (a7.out.below f);have s5:w1.heap.size+1<=w4.heap.size:=by have:=f.size;omega
 have q1:=Zc f hq.out.2.1;have q2:=Zc f hq.out.2.2.1;have q3:=Zc f hq.out.2.2.2;clear f c0 c1 c3 e4 e6 a0 a6 U O E d0 d3 a7 b4 hq;obtain⟨W5,a3,d5,q5,kW,kB,s6⟩:=Zap 30 #[.bool nx,.slice Ax kx cx] b6 Gk;replace q1:=kB _ _ _ q1;replace q2:=kB _ _ _ q2;replace q3:=kB _ _ _ q3;have e0:=Zb (kW _ _ _ _ _ d8.out);have b0:=Zb (kW _ _ _ _ _ c6.out);have b8:=Zb (kW _ _ _ _ _ a2);clear kW kB d8 c6 a2 b6;obtain⟨W6,h,c7,-,kW,kB,s7⟩:=Zap 30 #[.bool nr,.slice Ar kr cr] d5 Gk;replace q1:=kB _ _ _ q1;replace q2:=kB _ _ _ q2;replace q3:=kB _ _ _ q3;replace q5:=kB _ _ _ q5;have b5:=Zb (kW _ _ _ _ _ e0.out);have a9:=Zb (kW _ _ _ _ _ b0.out);have c9:=Zb (kW _ _ _ _ _ b8.out);clear kW kB e0 b0 b8 d5;have c1:=Zb q1.two;have c3:=Zb q3.two;rw[<- h,<- a3]at c1 c3;obtain⟨a0,a6,-,-⟩:=c1.out;obtain⟨U,O,-,-⟩:=c3.out;have hq:=Zb (Qo q2 q5);clear q1 q2 q3 q5;rw[<- a3]at h;replace h:=Zb h;clear a3;go_wp2_with fail;rw[h.out];refine(Zk6 false ng B Ag m d kg cg zb G _ b5.out a9.out J.out).mono ?_;rintro e w7 ⟨o,ny,Ay,ky,cy,ns,As,ks,cs,rfl,a1,-⟩;rw[hy.out]at a1;have e1:Below w.heap.size w w7:=c7.trans (o.mono Gk);have d6:=Zb (c9.out.below o);have s8:w4.heap.size+2<=w7.heap.size:=by have:=o.size;omega
 have q2:=Zc o hq.out.1;have q5:=Zc o hq.out.2;clear o c1 c3 a0 a6 U O h b5 a9 c9 c7 hq;obtain⟨W8,a5,d9,q8,kW,kB,s9⟩:=Zap 30 #[.bool ny,.slice Ay ky cy] e1 Gk;replace q2:=kB _ _ _ q2;replace q5:=kB _ _ _ q5;have b9:=Zb (kW _ _ _ _ _ d6.out);have b7:=Zb (kW _ _ _ _ _ a1);clear kW kB d6 a1 e1;obtain⟨W9,C,a8,-,kW,kB,e9⟩:=Zap 30 #[.bool ns,.slice As ks cs] d9 Gk;replace q2:=kB _ _ _ q2;replace q5:=kB _ _ _ q5;replace q8:=kB _ _ _ q8;have e7:=Zb (kW _ _ _ _ _ b9.out);have e3:=Zb (kW _ _ _ _ _ b7.out);clear kW kB b9 b7 d9;have c5:=Zb q5.two;have c8:=Zb q8.two;have c2:=Zb q2.four;have hq:=Zb q2;rw[<- C,<- a5]at c5 c8 c2;rw[<- a5]at C;clear a5 q2 q5 q8;obtain⟨g1,f3,-,-⟩:=c5.out;obtain⟨f5,f8,-,-⟩:=c8.out;obtain⟨f9,f6,f0,g2,g0,e8,f7,f4⟩:=c2.out;replace C:=Zb C;replace a8:=Zb a8;go_wp2_with fail;rw[C.out];obtain⟨W,hW,hB,c4,kW,-⟩:=Zm nx Ax kx cx ny Ay ky cy a8.out Gk hq.out;rw[hW];obtain⟨r0,r1,r2,r3,-⟩:=c4.four;refine bodyPost_ret (v:=.agg #[.bool nx,.slice Ax kx cx,.bool ny,.slice Ay ky cy]) (by simp[results,Tryz.results89,go_sem,r0,r1,r2,r3]) rfl ?_;exact⟨hB,_,_,_,_,_,_,_,_,rfl,kW _ _ _ _ _ e7.out,kW _ _ _ _ _ e3.out⟩
theorem Ztf(na:Bool)(A B:Option Addr)(n c m d:Nat)(za zb:Int)(w:World)(ha:Wd w na A n c za)(hb:Wd w false B m d zb)(h0:0<zb) :
    Calls Tryz.prog 62 #[.agg #[.bool na,.slice A n c],.agg #[.bool false,.slice B m d]] w (Zgs w (Qu za zb)):=by
 have a6:0<m:=by rw[<- hb.lim.len];exact length_digits_pos.2 Gk
 have a2:((m:Int) == 0)=false:=by simp;omega
 have hm:=hb.2.1;obtain⟨W0,Y,o,⟨q0,q1,q2⟩,s0⟩:=Zda w 30 #[.bool na,.slice A n c] 30 #[.bool false,.slice B m d] 32 #[.bool false,.slice none 0 0,.bool false,.slice none 0 0];have HA:=Zb (ha.below o);have HB:=Zb (hb.below o);clear ha hb;obtain⟨O,U,-⟩:=q0.two;have hq:=Zb (Qo q0 (Qo q1 q2));clear q0 q1 q2;go_in;go_wp2_with fail;refine(Zb1 HA.out.lim HA.out.ok).mono ?_;rintro e w1 ⟨rfl,h⟩;have C:Below w.heap.size w w1:=Gs o h;have s1:W0.heap.size<=w1.heap.size:=h.size;replace HA:=Zb (HA.out.below h);replace HB:=Zb (HB.out.below h);obtain⟨q0,q1,q2⟩:=hq.out;replace q0:=Zc h q0;replace q1:=Zc h q1;replace q2:=Zc h q2;clear O U hq h o Y;obtain⟨J,E,-⟩:=q1.two;have hq:=Zb (Qo q0 (Qo q1 q2));clear q0 q1 q2;go_wp2_with fail;refine(Zb1 HB.out.lim HB.out.ok).mono ?_;rintro e w2 ⟨rfl,f⟩;have I:Below w.heap.size w w2:=Gs C f;have s2:w1.heap.size<=w2.heap.size:=f.size;replace HA:=Zb (HA.out.below f);replace HB:=Zb (HB.out.below f);obtain⟨q0,q1,q2⟩:=hq.out;replace q0:=Zc f q0;replace q1:=Zc f q1;replace q2:=Zc f q2;clear J E hq f C;obtain⟨O,U,-⟩:=q0.two;obtain⟨J,E,-⟩:=q1.two;have hq:=Zb q2;clear q0 q1 q2;go_wp2_with fail;refine(Zof na A B n c m d za zb w2 HA.out HB.out h0).mono ?_;rintro e w3 ⟨u,nx,Ax,kx,cx,ny,Ay,ky,cy,rfl,hF⟩;have a1:Below w.heap.size w w3:=Gs I u
 have s3:w2.heap.size<=w3.heap.size:=u.size;replace hq:=Gm u hq;replace hF:=Zb hF;clear O U J E u I HA HB;obtain⟨b1,a9,b0,a8,a7,a3,a5,a4⟩:=hq.out.four;go_wp2_with fail;obtain⟨W5,a0,au,q2,kW,-,s5⟩:=Zm nx Ax kx cx ny Ay ky cy a1 Gk hq.out;rw[a0];obtain⟨r0,r1,r2,r3,-⟩:=q2.four;refine bodyPost_ret (v:=.tuple #[.agg #[.bool nx,.slice Ax kx cx,.bool ny,.slice Ay ky cy],.int .i64 0]) (by simp[results,Tryz.results62,go_sem,r0,r1,r2,r3]) rfl ?_;exact FS
theorem rOf_pos(x y:Int)(w:World)(hx1:-9223372036854775808<=x)(hx2:x<=9223372036854775807)(h0:0<y)(hy:y<=9223372036854775807) :
    Calls Tryz.prog 30 #[.int .i64 x,.int .i64 y] w (Zgs w (Qu x y)):=by
 obtain⟨W0,h,I,hq,s0⟩:=Zbp w 32 #[.bool false,.slice none 0 0,.bool false,.slice none 0 0];replace h:=Zb h;replace hq:=Zb hq;go_in;go_wp2_with fail;rw[h.out];clear h;refine(Ze7 x W0 hx1 hx2).mono ?_;rintro e w1 ⟨o,na,A,n,c,rfl,hA⟩;have C:Below w.heap.size w w1:=I.trans (o.mono Gk);have s1:W0.heap.size<=w1.heap.size:=o.size;replace hq:=Gm o hq;replace hA:=Zb hA;clear o I;go_wp2_with fail;refine(Ze7 y w1 Gk hy).mono ?_;rintro e w2 ⟨f,nb,B,m,d,rfl,hB⟩;have E:Below w.heap.size w w2:=C.trans (f.mono Gk);have s2:w1.heap.size<=w2.heap.size:=f.size;replace hq:=Gm f hq;replace hA:=Zb (hA.out.below f);have hn:nb=false:=by rw[hB.1];simp;omega
 subst hn;replace hB:=Zb hB;clear f C;go_wp2_with fail;refine(Ztf na A B n c m d x y w2 hA.out hB.out h0).mono ?_;rintro e w3 ⟨u,nx,Ax,kx,cx,ny,Ay,ky,cy,rfl,hF⟩;have O:Below w.heap.size w w3:=E.trans (u.mono Gk);have s3:w2.heap.size<=w3.heap.size:=u.size;replace hq:=Gm u hq;obtain⟨a5,a3,a4,a2,a1,U,a0,Y⟩:=hq.out.four;clear u E;replace hF:=Zb hF;go_wp2_with fail;obtain⟨W5,J,au,q2,kW,-,s5⟩:=Zm nx Ax kx cx ny Ay ky cy O Gk hq.out;rw[J];obtain⟨r0,r1,r2,r3,-⟩:=q2.four;refine bodyPost_ret (v:=.tuple #[.agg #[.bool nx,.slice Ax kx cx,.bool ny,.slice Ay ky cy],.int .i64 0]) (by simp[results,Tryz.results30,go_sem,r0,r1,r2,r3]) rfl ?_;exact FS
theorem EV{G:Prop}(h:G:=by
 rw[im];rintro e w6 ⟨rfl,gQ⟩;have bz:Below w.heap.size w w6:=Gs au gQ;replace q4:=Gm gQ q4;clear g0 g1;obtain⟨g0,g1,-⟩:=q4.out.two;refine hK.out _ _ (λ_=>⟨g0,g1⟩) ?_;clear hK K
 try simp only[Act.put,Zf6,Zfl,Zfx]
 refine Zin 1 [3] rfl Gj ⟨g0,g1⟩ ?_
 (refine tkA ?_;try simp only[Act.put,Zf6,Zfl,Zfx,Gr,Gq,Gp])
 refine tk0 ?_;refine wpAnyL_fin ?_;go_wp2_with fail;go_ret;exact⟨rfl,bz⟩):G:=h
theorem Zl4(na nb:Bool)(A B:Option Addr)(n c m d:Nat)(r:Rat)(w:World)(h:Fr w na A n c nb B m d r) :
    Calls Tryz.prog 49 #[.agg #[.bool na,.slice A n c,.bool nb,.slice B m d]] w λe w'=>e=.returned (.int .i64 0)/\Below w.heap.size w w':=by
 have hn:=h.neg;subst hn;have hmx:=Gt;have hl:=Zsg r;have a5:0<m:=by rw[<- h.2.lim.len];exact length_digits_pos.2 (by have:=hl.1;omega)
 have a4:((m:Int) == 0)=false:=by simp;omega
 have hm:=h.2.2.1;obtain⟨W0,U,o,q0,s0⟩:=Zbp w 32 #[.bool na,.slice A n c,.bool false,.slice B m d];have hA:=Zb (h.below o);clear h;obtain⟨a0,a1,a2,a3,-⟩:=q0.four;replace q0:=Zb q0;go_in;go_wp2_with fail;refine(Zb1 hA.out.1.lim hA.out.1.ok).mono ?_;rintro e w1 ⟨rfl,C⟩;have E:Below w.heap.size w w1:=Gs o C;replace hA:=Zb (hA.out.below C);replace q0:=Gm C q0;clear a0 a1 a2 a3 C o U;obtain⟨a0,a1,a2,a3,-⟩:=q0.out.four;go_wp2_with fail;refine(Zb1 hA.out.2.lim hA.out.2.ok).mono ?_;rintro e w2 ⟨rfl,u⟩;have I:Below w.heap.size w w2:=Gs E u;replace hA:=Zb (hA.out.below u);replace q0:=Gm u q0;clear a0 a1 a2 a3 u E;obtain⟨a0,a1,a2,a3,-⟩:=q0.out.four;go_wp2_with fail;refine(Zoc na false A B n c m d r.num r.den w2 hA.out.1 hA.out.2).mono ?_;rw[hl.2];rintro e w3 ⟨O,ng,Ag,kg,cg,code,rfl,hR⟩;have hG:=Zb (hR.small (Zdt 4096 |> λh=>by have:pw 0<pw 4096:=Zjr Gi;rw[Zd6]at this;exact this));have J:Below w.heap.size w w3:=Gs I O;clear a0 a1 a2 a3 O I q0 hA hR;obtain⟨W4,a6,Y,q4,kW,kB,s4⟩:=Zap 30 #[.bool ng,.slice Ag kg cg] J J.size;replace hG:=Zb (kW _ _ _ _ _ hG.out);clear kW kB;obtain⟨g0,g1,-⟩:=q4.two;replace q4:=Zb q4;go_wp2_with fail;refine Zad [] (λW'=>W'.cell? ⟨w3.heap.size,0,none⟩=some (.bool ng)/\W'.cell? ⟨w3.heap.size,1,none⟩=some (.slice Ag kg cg)) hmx ⟨g0,g1⟩ (λ_=>?_);refine Zin 1 [0] rfl Gj ⟨g0,g1⟩ ?_
 (refine tkA ?_;try simp only[QI,Zf6,Zfl,Zfx,Gr,Gq,Gp])
 refine tk0 ?_;refine wpAnyL_o 1 λK hK=>?_;go_simp;refine(Ze7 1 W4.drew Gk Gk).mono ?_;rintro e w5 ⟨f,n1,A1,k1,c1,rfl,hO⟩;replace f:=Zq f;have au:Below w.heap.size w w5:=Y.trans (f.mono (by show w.heap.size<=W4.heap.size;have:=J.size;omega));replace hG:=Zb (hG.out.below f);replace q4:=Gm f q4;clear g0 g1;obtain⟨g0,g1,-⟩:=q4.out.two;refine hK.out _ _ (λ_=>⟨g0,g1⟩) ?_;clear hK K
 try simp only[QI,Zf6,Zfl,Zfx]
 refine wpAnyL_o 2 λK hK=>?_;go_simp;refine(Zel ng n1 Ag A1 kg cg k1 c1 _ _ w5 hG.out.lim hO.lim).mono ?_;have im:Zfg ng n1 (digits (Int.natAbs ((1:Nat):Int))) (digits (Int.natAbs 1))=true:=by have h1:=hG.out.1;have h2:=hO.1;rw[h1,h2];unfold Zfg;simp[Zed,Zfq]
 exact EV
theorem Zr6(w:World)(t0:TypeId)(c0:Array Value)(t1:TypeId)(c1:Array Value)(t2:TypeId)(c2:Array Value)(t3:TypeId)(c3:Array Value)(t4:TypeId)(c4:Array Value) :
    ∃ W,((((w.alloc (.cells c0 t0)).alloc (.cells c1 t1)).alloc (.cells c2 t2)).alloc (.cells c3 t3)).alloc (.cells c4 t4)=W/\Below w.heap.size w W/\(Blk W w.heap.size t0 c0/\Blk W (w.heap.size+1) t1 c1/\Blk W (w.heap.size+1+1) t2 c2/\Blk W (w.heap.size+1+1+1) t3 c3/\Blk W (w.heap.size+1+1+1+1) t4 c4)/\W.heap.size=w.heap.size+1+1+1+1+1:=by
 obtain⟨W,hW,h1,h2,h3⟩:=Zfj w t0 c0 t1 c1 t2 c2 t3 c3;refine⟨_,rfl,?_,⟨?_,?_,?_,?_,?_⟩,by rw[hW];simp[h3]⟩ <;> rw[hW];exact h1.alloc Gk _;exact h2.1.alloc _;exact h2.2.1.alloc _;exact h2.2.2.1.alloc _;exact h2.2.2.2.alloc _;rw[<- h3];exact Blk.new _ _ _
theorem Fr.keep{w W:World}{na:Bool}{A:Option Addr}{n c:Nat}{nb:Bool}{B:Option Addr}{m d:Nat}{r:Rat}(h:Fr w na A n c nb B m d r)(k:∀ na A n c z,Wd w na A n c z->Wd W na A n c z):Fr W na A n c nb B m d r:=⟨k _ _ _ _ _ h.1,k _ _ _ _ _ h.2⟩
theorem rat_add(a b:Rat):Qu (a.num*b.den+b.num*a.den) ((a.den:Int)*(b.den:Nat))=a+b:=by
 have ha:((a.den:Nat):Int)≠0:=by have:=a.den_pos;omega
 have hb:((b.den:Nat):Int)≠0:=by have:=b.den_pos;omega
 rw[<- Rat.divInt_add_divInt _ _ ha hb,Qz,Qz]
theorem Zpz(a b:Rat)(h:b≠0):Qu (a.num*b.den) ((a.den:Int)*b.num)=a/b:=by
 rw[QJ,QQ,QQ,Qy,Qy]
 have e0:∀ x:Rat,((x.num:Int):Rat)=x*((x.den:Nat):Rat):=λx=>by
  have h1:((x.num:Int):Rat)/((x.den:Nat):Rat)=x:=by have:=Qz x;rw[QJ,Qy]at this;exact this
  have h2:((x.den:Nat):Rat)≠0:=by intro h;have:x.den=0:=by exact_mod_cast h
                                  have:=x.den_pos;omega
  rw[<- h1];grind
 have d:∀ x:Rat,((x.den:Nat):Rat)≠0:=λx h=>by
  have:x.den=0:=by exact_mod_cast h
  have:=x.den_pos;omega
 rw[e0 a,e0 b];have da:=d a;have db:=d b
 grind
theorem Zrd(a b:Rat)(h:b≠0):((a.den:Int)*b.num)≠0:=by
 have h1:=a.den_pos;have h2:b.num≠0:=λe=>h (Rat.num_eq_zero.1 e);exact Int.mul_ne_zero Gk h2
structure FE where
 na:Bool
 A:Option Addr
 n:Nat
 c:Nat
 nb:Bool
 B:Option Addr
 m:Nat
 d:Nat
 q:Rat
def FE.in_(w:World)(e:FE):Prop:=Fr w e.na e.A e.n e.c e.nb e.B e.m e.d e.q
def Zs:List FE->List Value
 | []=>[]
 | e::l=>.bool e.na :: .slice e.A e.n e.c :: .bool e.nb :: .slice e.B e.m e.d::Zs l
def Zay(es:List FE):Array Value:=(Zs es).toArray
theorem Zy(es:List FE):(Zs es).length=es.length*4:=by
 induction es with
 | nil=>rfl
 | cons e l ih=>simp only[Zs,Ql,ih];omega
theorem Zib{es:List FE}{i:Nat}{e:FE}(h:es[i]?=some e):(Zs es)[i*4]?=some (.bool e.na)/\(Zs es)[i*4+1]?=some (.slice e.A e.n e.c)/\(Zs es)[i*4+2]?=some (.bool e.nb)/\(Zs es)[i*4+3]?=some (.slice e.B e.m e.d):=by
 induction es generalizing i with
 | nil=>simp at h
 | cons x l ih =>
  cases i with
  | zero=>simp at h;subst h;simp[Zs]
  | succ i =>
   have:=ih (by simpa using h);rw[show (i+1)*4=i*4+4 by omega];simpa [Zs]using this
theorem Zmk(es:List FE):∀ (i x:Nat),(Zs es)[i]?≠some (limb x):=by
 induction es with
 | nil=>intro i x;simp[Zs]
 | cons e l ih =>
  intro i x
  match i with
  | 0=>simp[Zs]
  | 1=>simp[Zs]
  | 2=>simp[Zs]
  | 3=>simp[Zs]
  | i+4=>simpa [Zs]using ih i x
theorem Zgz{es:List FE}{i:Nat}{e:FE}(h:es[i]?=some e):(Zay es)[i*4]?=some (.bool e.na)/\(Zay es)[i*4+1]?=some (.slice e.A e.n e.c)/\(Zay es)[i*4+2]?=some (.bool e.nb)/\(Zay es)[i*4+3]?=some (.slice e.B e.m e.d):=by
 simpa [Zay]using Zib h
theorem Zgw(es:List FE):NoLimb (Zay es):=λi x=>by simpa [Zay]using Zmk es i x
def Zbu:FE:=⟨false,none,0,0,false,none,0,0,0⟩
theorem Za0(es fs:List FE):Zs (es++fs)=Zs es++Zs fs:=by
 induction es with
 | nil=>rfl
 | cons e l ih=>simp only[List.cons_append,Zs,ih]
theorem Zlh(fs:List FE):∀ u ∈ Zs fs,u.oneCell'=true:=by
 induction fs with
 | nil=>intro u h;simp[Zs]at h
 | cons e l ih =>
  intro u h;simp only[Zs,List.mem_cons]at h;rcases h with rfl|rfl|rfl|rfl|h;rfl;rfl;rfl;rfl;exact ih u h
theorem Zci(k:Nat):(QK #[.bool false,.slice none 0 0,.bool false,.slice none 0 0] k).toList=Zs (Qf k Zbu):=by
 unfold QK;apply QL;intro i;by_cases h:i<k*4
 ·have he:(Qf k Zbu)[i/4]?=some Zbu:=by rw[QC,Gx Gk]
  have hc:=Zib he;have h4:i%4=0 \/ i%4=1 \/ i%4=2 \/ i%4=3:=Gk;rcases h4 with h2|h2|h2|h2;rw[show i/4*4=i by omega]at hc;rw[hc.1];simp[h,h2,Zbu];rw[show i/4*4+1=i by omega]at hc;rw[hc.2.1];simp[h,h2,Zbu];rw[show i/4*4+2=i by omega]at hc;rw[hc.2.2.1];simp[h,h2,Zbu];rw[show i/4*4+3=i by omega]at hc;rw[hc.2.2.2];simp[h,h2,Zbu]
 rw[Qs Gg,Qs (by rw[Zy];simp;omega)]
def RowF(t:TypeId)(w:World)(base:Nat)(v:Value)(es:List FE):Prop:=
 (v=.slice none 0 0/\es=[]) \/ ∃ g sp,v=.slice (some ⟨g,0,none⟩) es.length (es.length+sp)/\base<=g/\es.length+sp<=maxLen/\Blk w g t (Zay (es++Qf sp Zbu))
section
variable{t:TypeId}{w w':World}{base:Nat}{v:Value}{es:List FE}
theorem RowF.own(h:RowF t w base v es):w.ownsRow base t 4 v es.length (Zs es):=by
 refine⟨Zy es,?_⟩;rcases h with ⟨h1,rfl⟩|⟨g,sp,h1,h2,h3,h4⟩;exact .inl ⟨h1,rfl⟩;refine .inr ⟨g,_,_,h1,h2,h4,QO _ _,h3,?_,?_⟩;simp[Zay,Zy];simp only[Zay];rw[Za0,<- Zy es];exact List.take_left
theorem RowF.row_ge(h:RowF t w base v es):∀ k,v.ownBlock=some k->base<=k:=λk hk=>(h.own.lt k hk).1
theorem Fi{G:Prop}(h:G:=by
 rcases h with h|⟨g,sp,h1,h2,h3,h4⟩;exact .inl h;exact .inr ⟨g,sp,h1,h2,h3,Zc hb h4⟩):G:=h
theorem RowF.kept(h:RowF t w base v es)(hb:Below w.heap.size w w'):RowF t w' base v es:=by
 exact Fi
theorem RowF.keep(h:RowF t w base v es)(hg:w.grownBy w' v.ownBlock){A:Option Addr}{n c:Nat}{l:List Nat}(hL:Lim w A n c l):Lim w' A n c l:=by
 refine⟨hL.1,hL.2.1,hL.2.2.1,hL.2.2.2.1,λhn=>?_⟩;obtain⟨b,o,e,hc⟩:=hL.2.2.2.2 hn;refine⟨b,o,e,λk hk=>?_⟩;rw[<- hc k hk];refine QF (hg.block b (Zn (hc k hk)) (λe'=>?_));rcases h with ⟨rfl,_⟩|⟨g,sp,rfl,_,_,h4⟩;cases e';have f:b=g:=by simpa [Value.ownBlock]using e'
 subst f;have h1:=hc k hk;rw[h4.cell]at h1;exact Zgw _ _ _ h1
end
section
variable{P:Program}(w:World)
theorem Fw{G:Prop}(h:G:=by
 rw[List.getElem?_append_left (by rw[List.getElem?_eq_some_iff]at hu;exact hu.1)];exact hu):G:=h
theorem EU{G:Prop}(h:G:=by
 refine(setRow_heap w g _ _ e _ h4).trans ?_;congr 2;unfold Zay;congr 1;rw[dL];have fK:List.replicate sp Zbu=List.replicate m Zbu++List.replicate (sp-m) Zbu:=by rw[List.replicate_append_replicate];congr 1;omega
 have iZ:(Zs fs).length=(Zs (List.replicate m Zbu)).length:=by rw[Zy,Zy,hm,List.length_replicate]
 simp only[Za0];rw[List.take_left,iZ,<- List.length_append,fK,Za0,<- List.append_assoc (Zs es),List.drop_left,List.append_assoc]):G:=h
theorem Ct{G:Prop}(h:G:=by
 simp[Builtin.append_,run_underlying ht,sizeOf,typeInfo,hi,Builtin.lenOf,Builtin.firstCells,loadCells,loadCellsFrom]):G:=h
theorem Cu{G:Prop}(h:G:=by
 simp[Builtin.append_,run_underlying ht,sizeOf,typeInfo,hi,Builtin.lenOf,Builtin.firstCells,loadCells,loadCellsFrom,storeCells]):G:=h
theorem Ec{G:Prop}(h:G:=by
 have hf:=run_firstCells_some (P:=P) w i.size 0 ad 0 c [] Gh Gh;rcases ah with ⟨rfl,rfl⟩|⟨g,sp,rfl,h2,h3,h4⟩
 ·refine⟨.slice none 0 0,w,?_,.inl ⟨rfl,rfl⟩,World.grownBy.refl w _⟩
  exact Ct
 refine⟨_,w,?_,.inr ⟨g,sp,rfl,h2,h3,h4⟩,World.grownBy.refl w _⟩;exact Cu):G:=h
theorem Eg{G:Prop}(h:G:=by
 have:=heap_alloc_new w.drew (.cells ((Zs fs).toArray++Builtin.zeroCells (Value.agg #[.bool false,.slice none 0 0,.bool false,.slice none 0 0]).cells (grownCap w m 0 e-m)) e);unfold Blk;refine this.trans ?_;congr 1
 have hx:(Zs fs).toArray++Builtin.zeroCells (Value.agg #[.bool false,.slice none 0 0,.bool false,.slice none 0 0]).cells (grownCap w m 0 e-m)=Zay ([]++fs++List.replicate (grownCap w m 0 e-m) Zbu):=by
  apply Array.toList_inj.1;rw[Array.toList_append,show (Value.agg #[.bool false,.slice none 0 0,.bool false,.slice none 0 0]).cells=#[.bool false,.slice none 0 0,.bool false,.slice none 0 0] from rfl,Zci];simp[Zay,Za0]
 rw[hx]):G:=h
theorem El{G:Prop}(h:G:=by
 have:=heap_alloc_new w.drew (.cells ((Zs es).toArray++(Zs fs).toArray++Builtin.zeroCells (Value.agg #[.bool false,.slice none 0 0,.bool false,.slice none 0 0]).cells (grownCap w (es.length+m) (es.length+sp) e-(es.length+m))) e);unfold Blk;refine this.trans ?_;congr 1
 have hx:(Zs es).toArray++(Zs fs).toArray++Builtin.zeroCells (Value.agg #[.bool false,.slice none 0 0,.bool false,.slice none 0 0]).cells (grownCap w (es.length+m) (es.length+sp) e-(es.length+m))=Zay (es++fs++List.replicate (grownCap w (es.length+m) (es.length+sp) e-(es.length+m)) Zbu):=by
  apply Array.toList_inj.1;rw[Array.toList_append,Array.toList_append,show (Value.agg #[.bool false,.slice none 0 0,.bool false,.slice none 0 0]).cells=#[.bool false,.slice none 0 0,.bool false,.slice none 0 0] from rfl,Zci];simp[Zay,Za0]
 rw[hx]):G:=h
theorem Zjy(base:Nat)(t ty e:TypeId)(i:TypeInfo)(ht:P.underlying t=some (.slice e))(hi:P.info? e=some i)(hz:i.zero=some (.agg #[.bool false,.slice none 0 0,.bool false,.slice none 0 0]))
    (hs:i.size=4) (hby:i.bytes=64) (v:Value) (es:List FE) (ah:RowF e w base v es)
    (B:Nat) (A:Option Addr) (m c:Nat) (fs:List FE) (hr:Reads w B 4 A m (Zs fs)) (hm:fs.length=m) (h63:es.length+m<=1000) (hbase:base<=w.heap.size) :
    ∃ v' w',(Builtin.append_ #[t,t] ty #[v,.slice A m c]).run P w=.ok v' w'/\RowF e w' base v' (es++fs)/\w.grownBy w' v.ownBlock:=by
 rcases Nat.eq_zero_or_pos m with h0|h0
 ·subst h0
  obtain rfl:fs=[]:=Qx hm;rw[List.append_nil];rcases A with _|ad;exact⟨v,w,Zce w base t ty e i 4 ht hi v _ _ ah.own c,ah,World.grownBy.refl w _⟩;exact Ec
 obtain⟨ad,rfl,_,hc⟩:=hr.2 h0;have hl:(Zs fs).length=m*i.size:=by rw[Zy,hm,hs]
 have dL:es.length*i.size=(Zs es).length:=by rw[Zy,hs]
 rcases ah with ⟨rfl,rfl⟩|⟨g,sp,rfl,h2,h3,h4⟩
 ·have f:=run_append_nil (P:=P) w t ty e i _ ht hi hz ad m c (Zs fs) hl hc h0 Gk (by rw[hby];omega)
  have h:=grownCap_ge w m 0 e;have o:=grownCap_le_maxLen w m 0 e (by unfold maxLen;simp only[List.length_nil]at h63;omega);refine⟨_,_,f,.inr ⟨w.heap.size,grownCap w m 0 e-m,?_,hbase,?_,?_⟩,⟨rfl,rfl,rfl,by simp,λk hk _=>Below.heap_alloc w.drew _ k hk⟩⟩;rw[QR,hm,Qm h];rw[QR,hm,Qm h];exact o;exact Eg
 by_cases hroom:m<=sp
 ·have f:=run_append_room (P:=P) w t ty e i ht hi g es.length (es.length+sp) _ h4 ad m c (Zs fs) hl hc (Zlh fs) Gk (by rw[dL,Zy,Zy];simp[Zay,Zy];omega)
  refine⟨_,_,f,.inr ⟨g,sp-m,?_,h2,?_,?_⟩,⟨rfl,rfl,rfl,by simp[World.setRow],λk _ hk=>setRow_other w g k _ (λe'=>hk (by simp[Value.ownBlock,e']))⟩⟩;rw[Qp,hm,show es.length+m+(sp-m)=es.length+sp by omega];rw[Qp,hm];omega;exact EU
 have C:∀ j u,(Zs es)[j]?=some u->w.cell? ((⟨g,0,none⟩:Addr).add j)=some u:=λj u hu=>by
   rw[Zf,Qv,h4.cell];simp only[Zay,List.getElem?_toArray,Za0];exact Fw
 have f:=run_append_grow (P:=P) w t ty e i _ ht hi hz ⟨g,0,none⟩ es.length (es.length+sp) (Zs es) dL.symm C ad m c (Zs fs) hl hc Gk Gk (growslice_fits Gk (by rw[hby];omega));have h:=grownCap_ge w (es.length+m) (es.length+sp) e;have o:=grownCap_le_maxLen w (es.length+m) (es.length+sp) e (by unfold maxLen;omega);refine⟨_,_,f,.inr ⟨w.heap.size,grownCap w (es.length+m) (es.length+sp) e-(es.length+m),?_,hbase,?_,?_⟩,⟨rfl,rfl,rfl,by simp,λk hk _=>Below.heap_alloc w.drew _ k hk⟩⟩;rw[Qp,hm,Qm h];rw[Qp,hm,Qm h];exact o;exact El
end
def OwnF(t:TypeId)(w:World)(base:Nat)(v:Value)(qs:List Rat):Prop:=∃ es,RowF t w base v es/\(∀ e ∈ es,e.in_ w)/\es.map FE.q=qs
theorem Fr.of_keep{w w':World}{na:Bool}{A:Option Addr}{n c:Nat}{nb:Bool}{B:Option Addr}{m d:Nat}{r:Rat}(h:Fr w na A n c nb B m d r)(hk:∀ (A:Option Addr) (n c:Nat) (l:List Nat),Lim w A n c l->Lim w' A n c l):Fr w' na A n c nb B m d r:=⟨⟨h.1.1,h.1.2.1,hk _ _ _ _ h.1.2.2⟩,⟨h.2.1,h.2.2.1,hk _ _ _ _ h.2.2.2⟩⟩
section
variable{t:TypeId}{w w':World}{base:Nat}{v:Value}{qs:List Rat}
theorem OwnF.nil(t:TypeId)(w:World)(base:Nat):OwnF t w base (.slice none 0 0) []:=⟨[],.inl ⟨rfl,rfl⟩,λe h=>by simp at h,rfl⟩
theorem OwnF.kept(h:OwnF t w base v qs)(hb:Below w.heap.size w w'):OwnF t w' base v qs:=by
 obtain⟨es,h1,h2,h3⟩:=h;exact⟨es,h1.kept hb,λe he=>(h2 e he).below hb,h3⟩
theorem OwnF.row_ge(h:OwnF t w base v qs):∀ k,v.ownBlock=some k->base<=k:=by obtain⟨es,h1,_⟩:=h;exact h1.row_ge
def FL(w:World)(A:Option Addr)(n c:Nat)(qs:List Rat):Prop:=
 ∃ es:List FE,es.length=n/\n<=c/\c<=maxLen/\(∀ e ∈ es,e.in_ w)/\es.map FE.q=qs/\(0<n->∃ g o,A=some ⟨g,o,none⟩/\∀ (k:Nat) (e:FE),es[k]?=some e->w.cell? ⟨g,o+k*4,none⟩=some (.bool e.na)/\w.cell? ⟨g,o+(k*4+1),none⟩=some (.slice e.A e.n e.c)/\w.cell? ⟨g,o+(k*4+2),none⟩=some (.bool e.nb)/\w.cell? ⟨g,o+(k*4+3),none⟩=some (.slice e.B e.m e.d))
theorem OwnF.fl(h:OwnF t w base v qs):∃ A c,v=.slice A qs.length c/\FL w A qs.length c qs:=by
 obtain⟨es,h1,h2,rfl⟩:=h;rcases h1 with ⟨rfl,rfl⟩|⟨g,sp,rfl,h4,h5,h6⟩;exact⟨none,0,rfl,[],rfl,QN _,Nat.zero_le _,λe h=>by simp at h,rfl,λh=>absurd h Gh⟩;rw[Qj];refine⟨_,es.length+sp,rfl,es,rfl,QO _ _,h5,h2,rfl,λ_=>⟨g,0,rfl,λk e he=>?_⟩⟩;have hk:k<es.length:=(List.getElem?_eq_some_iff.1 he).1;have hc:=Zgz (es:=es++Qf sp Zbu) (i:=k) (e:=e) (by rw[Qn hk];exact he);simp only[Qv,h6.cell];exact hc
theorem FL.below{A:Option Addr}{n c:Nat}(h:FL w A n c qs)(hb:Below w.heap.size w w'):FL w' A n c qs:=by
 obtain⟨es,h1,h2,h3,h4,h5,h6⟩:=h;refine⟨es,h1,h2,h3,λe he=>(h4 e he).below hb,h5,λhn=>?_⟩;obtain⟨g,o,e1,hc⟩:=h6 hn;refine⟨g,o,e1,λk e he=>?_⟩;obtain⟨a,b,c',d⟩:=hc k e he;exact⟨(hb.cell (Zn a)).trans a,(hb.cell (Zn b)).trans b,(hb.cell (Zn c')).trans c',(hb.cell (Zn d)).trans d⟩
end
theorem Zhz{w:World}{g:Nat}{t:TypeId}{na:Bool}{A:Option Addr}{n c:Nat}{nb:Bool}{B:Option Addr}{m d:Nat}(q:Rat)(h:Blk w g t #[.bool na,.slice A n c,.bool nb,.slice B m d]):Reads w (g+1) 4 (some ⟨g,0,none⟩) 1 (Zs [⟨na,A,n,c,nb,B,m,d,q⟩]):=
 ⟨rfl,λ_=>⟨_,rfl,Nat.lt_succ_self _,λj u hu=>by
  rw[Zf,Qv,h.cell];simpa [Zs]using hu⟩⟩
section
variable{P:Program}(w:World)
theorem Ia{G:Prop}(h:G:=by
 rcases List.mem_append.1 he with he|he;exact(h2 e he).of_keep hk;exact(gU e he).of_keep hk):G:=h
theorem Zgf{o:Oper}{a:Act}{K:Act->World->Prop}{Q:Exit->Act->World->Prop}(s x:Operand)(t:TypeId)
    (ho:o.op=.call { callee:=.builtin .append,args:=#[s,x],argTypes:=#[t,t] })
    (base:Nat) (e:TypeId) (i:TypeInfo) (ht:P.underlying t=some (.slice e)) (hi:P.info? e=some i) (hz:i.zero=some (.agg #[.bool false,.slice none 0 0,.bool false,.slice none 0 0])) (hsi:i.size=4) (hby:i.bytes=64)
    (v:Value) (qs:List Rat) (hs:a.eval s=v) (hown:OwnF e w base v qs)
    (B:Nat) (A:Option Addr) (m c:Nat) (fs:List FE) (hx:a.eval x=.slice A m c) (hr:Reads w B 4 A m (Zs fs)) (hm:fs.length=m) (gU:∀ e ∈ fs,e.in_ w)
    (h63:qs.length+m<=1000) (hbase:base<=w.heap.size)
    (h:∀ v' w',OwnF e w' base v' (qs++fs.map FE.q)->w.grownBy w' v.ownBlock->(∀ (A:Option Addr) (n c:Nat) (l:List Nat),Lim w A n c l->Lim w' A n c l)->K (a.put o.dst v') w'):o.wp P a w K Q:=by
 obtain⟨es,h1,h2,rfl⟩:=hown;rw[Qj]at h63;obtain⟨v',w',f,h3,h4⟩:=Zjy (P:=P) w base t o.type e i ht hi hz hsi hby v es h1 B A m c fs hr hm h63 hbase;unfold Oper.wp execOp;simp only[ho,resolve,invoke,builtin,Sem.run_bind,Sem.run_pure,Result.andThen_ok,List.map_toArray,List.map_cons,List.map_nil,hs,hx,f];have hk:∀ (A:Option Addr) (n c:Nat) (l:List Nat),Lim w A n c l->Lim w' A n c l:=λ_ _ _ _ hL=>h1.keep h4 hL;refine h v' w' ⟨es++fs,h3,λe he=>?_,by rw[List.map_append]⟩ h4 hk;exact Ia
theorem Zen{ops:Array Oper}{rest:List Oper}{o:Oper}{a:Act}{Q:Exit->Act->World->Prop}(hgd:o.guard=none)(s x:Operand)(t:TypeId)
    (ho:o.op=.call { callee:=.builtin .append,args:=#[s,x],argTypes:=#[t,t] })
    (base:Nat) (e:TypeId) (i:TypeInfo) (ht:P.underlying t=some (.slice e)) (hi:P.info? e=some i) (hz:i.zero=some (.agg #[.bool false,.slice none 0 0,.bool false,.slice none 0 0])) (hsi:i.size=4) (hby:i.bytes=64)
    (v:Value) (qs:List Rat) (hs:a.eval s=v) (hown:OwnF e w base v qs)
    (B:Nat) (A:Option Addr) (m c:Nat) (fs:List FE) (hx:a.eval x=.slice A m c) (hr:Reads w B 4 A m (Zs fs)) (hm:fs.length=m) (hfs:∀ e ∈ fs,e.in_ w)
    (h63:qs.length+m<=1000) (hbase:base<=w.heap.size)
    (h:∀ v' w',OwnF e w' base v' (qs++fs.map FE.q)->w.grownBy w' v.ownBlock->(∀ (A:Option Addr) (n c:Nat) (l:List Nat),Lim w A n c l->Lim w' A n c l)->wpList P ops Q rest (a.put o.dst v') w'):wpList P ops Q (o::rest) a w:=
 wpList_plain hgd λ_ hK=>Zgf w s x t ho base e i ht hi hz hsi hby v qs hs hown B A m c fs hx hr hm hfs h63 hbase λv' w' h2 h3 h4=>hK _ _ (h v' w' h2 h3 h4)
end
def PolyL(w:World)(A:Option Addr)(n c:Nat)(xs:List Int):Prop:=∃ es,WL w A n c es/\es.map WE.num=xs/\∀ e ∈ es,e.ok=true
theorem WE.wd{w:World}{e:WE}(h:Lim w e.A e.n e.c e.l)(hk:e.ok=true):Wd w e.neg e.A e.n e.c e.num:=Wd.of_ok h hk
def Zak:List WE->List Value
 | []=>[]
 | e::l=>.bool e.neg :: .slice e.A e.n e.c::Zak l
def Zbj(es:List WE):Array Value:=(Zak es).toArray
theorem Za5(es:List WE):(Zak es).length=es.length*2:=by
 induction es with
 | nil=>rfl
 | cons e l ih=>simp only[Zak,Ql,ih];omega
theorem Zlo{es:List WE}{i:Nat}{e:WE}(h:es[i]?=some e):(Zak es)[i*2]?=some (.bool e.neg)/\(Zak es)[i*2+1]?=some (.slice e.A e.n e.c):=by
 induction es generalizing i with
 | nil=>simp at h
 | cons a l ih =>
  cases i with
  | zero=>simp at h;subst h;exact⟨rfl,rfl⟩
  | succ i =>
   have:=ih (i:=i) (by simpa using h);rw[show (i+1)*2=i*2+1+1 by omega];simpa [Zak]using this
theorem Zro{es:List WE}{i:Nat}(e:WE)(h:i<es.length):((Zak es).set (i*2) (.bool e.neg)).set (i*2+1) (.slice e.A e.n e.c)=Zak (es.set i e):=by
 induction es generalizing i with
 | nil=>simp at h
 | cons a l ih =>
  cases i with
  | zero=>rfl
  | succ i =>
   have:=ih (i:=i) (by simpa using h);rw[show (i+1)*2=i*2+1+1 by omega];simp only[Zak,List.set_cons_succ,this]
theorem Zmh(es:List WE):∀ (i x:Nat),(Zak es)[i]?≠some (limb x):=by
 induction es with
 | nil=>intro i x;simp[Zak]
 | cons a l ih =>
  intro i x
  match i with
  | 0=>simp[Zak]
  | 1=>simp[Zak]
  | i+2=>simpa [Zak]using ih i x
theorem Zh7{es:List WE}{i:Nat}{e:WE}(h:es[i]?=some e):(Zbj es)[i*2]?=some (.bool e.neg)/\(Zbj es)[i*2+1]?=some (.slice e.A e.n e.c):=by
 simpa [Zbj]using Zlo h
theorem Zqy{es:List WE}{i:Nat}(e:WE)(h:i<es.length):((Zbj es).setIfInBounds (i*2) (.bool e.neg)).setIfInBounds (i*2+1) (.slice e.A e.n e.c)=Zbj (es.set i e):=by
 unfold Zbj;rw[<- Zro e h];simp
theorem Zc5(es:List WE):NoLimb (Zbj es):=λi x=>by simpa [Zbj]using Zmh es i x
theorem Zgc(es:List WE)(i:Nat)(b:Bool):NoLimb ((Zbj es).setIfInBounds i (.bool b)):=λj x=>by
 rw[Qk]
 split
 ·split <;> simp
 exact Zc5 es j x
def POwn(t:TypeId)(w:World)(g:Nat)(xs:List Int):Prop:=
 ∃ es:List WE,Blk w g t (Zbj es)/\(∀ e ∈ es,Lim w e.A e.n e.c e.l/\e.ok=true)/\es.map WE.num=xs
section
variable{t:TypeId}{w w':World}{g:Nat}{xs:List Int}
theorem POwn.below(h:POwn t w g xs)(hb:Below w.heap.size w w'):POwn t w' g xs:=by
 obtain⟨es,h1,h2,h3⟩:=h;exact⟨es,Zc hb h1,λe he=>⟨(h2 e he).1.below hb,(h2 e he).2⟩,h3⟩
theorem POwn.lt(h:POwn t w g xs):g<w.heap.size:=by obtain⟨es,h1,_⟩:=h;exact h1.lt
theorem POwn.frozen(h:POwn t w g xs)(i:Nat):w.frozen? ⟨g,i,none⟩=false:=by obtain⟨es,h1,_⟩:=h;exact h1.frozen i
theorem POwn.at_(h:POwn t w g xs){i:Nat}(hi:i<xs.length):∃ neg A n c,w.cell? ⟨g,i*2,none⟩=some (.bool neg)/\w.cell? ⟨g,i*2+1,none⟩=some (.slice A n c)/\Wd w neg A n c (xs[i]?.getD 0):=by
 obtain⟨es,h1,h2,rfl⟩:=h;have hl:i<es.length:=by simpa using hi
 have he:=QA hl;have hc:=Zh7 he;have hm:=h2 es[i] (QP hl);refine⟨es[i].neg,es[i].A,es[i].n,es[i].c,by rw[h1.cell];exact hc.1,by rw[h1.cell];exact hc.2,?_⟩;rw[QM,he];exact WE.wd hm.1 hm.2
theorem POwn.set_(h:POwn t w g xs){i:Nat}(hi:i<xs.length){neg:Bool}{A:Option Addr}{n c:Nat}{z:Int}(hz:Wd w neg A n c z) :
    POwn t ((w.setCell ⟨g,i*2,none⟩ (.bool neg)).setCell ⟨g,i*2+1,none⟩ (.slice A n c)) g (xs.set i z):=by
 obtain⟨es,h1,h2,rfl⟩:=h;have hl:i<es.length:=by simpa using hi
 have f:Blk (w.setCell ⟨g,i*2,none⟩ (.bool neg)) g t ((Zbj es).setIfInBounds (i*2) (.bool neg)):=h1.set_ _ _;have o:=f.set_ (i*2+1) (.slice A n c);have hs:=Zqy (es:=es) (i:=i) ⟨neg,A,n,c,digits z.natAbs⟩ hl;dsimp only at hs;rw[hs]at o;have keep:∀ (A':Option Addr) (n' c':Nat) (l:List Nat),Lim w A' n' c' l->Lim ((w.setCell ⟨g,i*2,none⟩ (.bool neg)).setCell ⟨g,i*2+1,none⟩ (.slice A n c)) A' n' c' l:=λ_ _ _ _ h=>(h.set_box h1 (Zc5 es) _ _).set_box f (Zgc _ _ _) _ _;refine⟨_,o,λe he=>?_,?_⟩
 ·rcases List.mem_or_eq_of_mem_set he with he|rfl
  exact⟨keep _ _ _ _ (h2 e he).1,(h2 e he).2⟩;exact⟨keep _ _ _ _ hz.2.2,hz.ok⟩
 rw[List.map_set];congr 1;exact hz.sgEq
end
def Zck:WE:=⟨false,none,0,0,[]⟩
theorem Zjo(n:Nat):Zak (Qf n Zck)=(madeCells #[.bool false,.slice none 0 0] (n*2)).toList:=by
 apply QL;intro i
 have hm:(madeCells #[.bool false,.slice none 0 0] (n*2)).toList[i]?=if i<n*2 then some ((#[Value.bool false,Value.slice none 0 0])[i%2]!)else none:=by
  unfold madeCells;by_cases h:i<n*2;simp[h];simp[h]
 rw[hm];by_cases h:i<n*2
 ·rw[Gx h]
  have he:(Qf n Zck)[i/2]?=some Zck:=by rw[QC,Gx Gk]
  have hc:=Zlo he;rcases Nat.mod_two_eq_zero_or_one i with h2|h2;rw[show i/2*2=i by omega]at hc;rw[hc.1,h2];rfl;rw[show i/2*2+1=i by omega]at hc;rw[hc.2,h2];rfl
 rw[Gw h];exact Qs (by rw[Za5];simp;omega)
theorem makeW{P:Program}(t e:TypeId){i:TypeInfo}(ht:P.underlying t=some (.slice e))(hi:P.info? e=some i)(hz:i.zero=some (.agg #[.bool false,.slice none 0 0]))(hs:i.size=2)(hb:i.bytes=32)
    (x:Int) (n:Nat) (hx:x=n) (hn:n<=1000000000000) (W:World) :
    (Instr.makeSlice t (.int .i64 x) (.int .i64 x)).run P W=.ok (.slice (some ⟨W.heap.size,0,none⟩) n n) (W.alloc (.cells (Zbj (Qf n Zck)) e)):=by
 subst hx;have hr:=run_make (P:=P) W t e i _ ht hi hz .i64 .i64 n n Gk Gk (by rw[hb];omega) Gk;simp only[Int.toNat_natCast]at hr;rw[hr]
 have:madeCells (Value.agg #[.bool false,.slice none 0 0]).cells (n*i.size)=Zbj (Qf n Zck):=by
  rw[hs];apply Array.toList_inj.1;unfold Zbj;rw[Zjo];rfl
 rw[this]
theorem POwn.new(t:TypeId)(w:World)(n:Nat):POwn t (w.alloc (.cells (Zbj (Qf n Zck)) t)) w.heap.size (Qf n 0):=
 ⟨Qf n Zck,Blk.new _ _ _,λe he=>by rw[(List.mem_replicate.1 he).2];exact⟨Lim.nil _ _ _ (Nat.zero_le _),rfl⟩,by simp[Zck,WE.num,sg,val]⟩
structure Kept (G:Nat->Prop) (w w':World):Prop where
 os:w'.os=w.os
 tape:w'.tape=w.tape
 output:w'.output=w.output
 size:w.heap.size<=w'.heap.size
 block:∀ k,k<w.heap.size->¬ G k->w'.heap[k]?=w.heap[k]?
section
variable{G:Nat->Prop}{w w' w'':World}
theorem Kept.refl(G:Nat->Prop)(w:World):Kept G w w:=⟨rfl,rfl,rfl,QN _,λ_ _ _=>rfl⟩
theorem Kept.trans(h:Kept G w w')(k:Kept G w' w''):Kept G w w'':=
 ⟨k.os.trans h.os,k.tape.trans h.tape,k.output.trans h.output,Nat.le_trans h.size k.size,λi hi hg=>(k.block i (QG hi h.size) hg).trans (h.block i hi hg)⟩
theorem Kept.of_below(h:Below w.heap.size w w'):Kept G w w':=⟨h.os,h.tape,h.output,h.size,λk hk _=>h.block k hk⟩
theorem Kept.below(h:Kept G w w')(k:Below w'.heap.size w' w''):Kept G w w'':=h.trans (Kept.of_below k)
theorem Kept.drewN(h:Kept G w w')(n:Nat):Kept G w (w'.drewN n):=⟨h.os,h.tape,h.output,h.size,h.block⟩
theorem Kept.set_(h:Kept G w w'){p:Addr}(hp:G p.block \/ w.heap.size<=p.block)(u:Value):Kept G w (w'.setCell p u):=
 ⟨h.os,h.tape,h.output,by simp[World.setCell];exact h.size,λk hk hg=>(Below.heap_setCell w' p u k (by rcases hp with hp|hp;exact λe=>hg (e▸hp);omega)).trans (h.block k hk hg)⟩
theorem Kept.blk(h:Kept G w w'){g:Nat}{t:TypeId}{cs:Array Value}(hb:Blk w g t cs)(hg:¬ G g):Blk w' g t cs:=(h.block g hb.lt hg).trans hb
theorem Kept.to_below{B:Nat}(h:Kept G w w')(hG:∀ k,G k->B<=k)(hB:B<=w.heap.size):Below B w w':=
 ⟨h.os,h.tape,h.output,h.size,λk hk=>h.block k (QG hk hB) (λhg=>by have:=hG k hg;omega)⟩
theorem Kept.mono{G':Nat->Prop}(h:Kept G w w')(hG:∀ k,k<w.heap.size->G k->G' k):Kept G' w w':=⟨h.os,h.tape,h.output,h.size,λk hk hg=>h.block k hk (λh=>hg (hG k hk h))⟩
theorem Kept.lim(h:Kept G w w'){A:Option Addr}{n c:Nat}{l:List Nat}(hl:Lim w A n c l)(hG:∀ k,G k->∃ t cs,Blk w k t cs/\NoLimb cs):Lim w' A n c l:=
 ⟨hl.1,hl.2.1,hl.2.2.1,hl.2.2.2.1,λhn=>by
  obtain⟨b,o,e,hc⟩:=hl.2.2.2.2 hn;refine⟨b,o,e,λk hk=>?_⟩;have h0:=hc k hk;refine(QF (w:=w) (h.block b (Zn h0) (λhg=>?_))).trans h0;obtain⟨t,cs,h1,h2⟩:=hG b hg;have h3:=h0;rw[h1.cell]at h3;exact h2 _ _ h3⟩
theorem Kept.wd(h:Kept G w w'){neg:Bool}{A:Option Addr}{n c:Nat}{z:Int}(hl:Wd w neg A n c z)(hG:∀ k,G k->∃ t cs,Blk w k t cs/\NoLimb cs):Wd w' neg A n c z:=⟨hl.1,hl.2.1,h.lim hl.2.2 hG⟩
end
section
variable{t:TypeId}{w:World}{g:Nat}{xs zs:List Int}
theorem POwn.box(h:POwn t w g xs):∃ t cs,Blk w g t cs/\NoLimb cs:=by
 obtain⟨es,h1,-,-⟩:=h;exact⟨t,_,h1,Zc5 es⟩
theorem POwn.other{t':TypeId}{g':Nat}{ys:List Int}(h:POwn t w g xs)(h':POwn t' w g' ys)(hne:g≠g')(i:Nat)(b:Bool)(A:Option Addr)(n c:Nat) :
    POwn t ((w.setCell ⟨g',i*2,none⟩ (.bool b)).setCell ⟨g',i*2+1,none⟩ (.slice A n c)) g xs:=by
 obtain⟨es,h1,h2,h3⟩:=h;obtain⟨fs,k1,-,-⟩:=h';refine⟨es,(h1.far hne _).far hne _,λe he=>⟨?_,(h2 e he).2⟩,h3⟩;exact((h2 e he).1.set_box k1 (Zc5 fs) _ _).set_box (k1.set_ (i*2) (.bool b)) (Zgc _ _ _) _ _
end
theorem Zqx{cs:Array Value}(h:NoLimb cs)(i:Nat){v:Value}(hv:∀ x,v≠limb x):NoLimb (cs.setIfInBounds i v):=λj x=>by
 rw[Qk]
 split
 ·split
  simpa using hv x;simp
 exact h j x
section
variable{w:World}{g i:Nat}{na:Bool}{A:Option Addr}{n c:Nat}{nb:Bool}{B:Option Addr}{m d:Nat}
end
def FRaw(t:TypeId)(w:World)(g n:Nat):Prop:=∃ es:List FE,Blk w g t (Zay es)/\n<=es.length
def FOwn(t:TypeId)(w:World)(g:Nat)(qs:List Rat):Prop:=∃ es zs:List FE,Blk w g t (Zay (es++zs))/\(∀ e ∈ es,e.in_ w)/\es.map FE.q=qs
section
variable{t:TypeId}{w w':World}{g:Nat}{qs:List Rat}
theorem FRaw.lt{n:Nat}(h:FRaw t w g n):g<w.heap.size:=by obtain⟨es,h1,h2⟩:=h;exact h1.lt
theorem FOwn.raw(h:FOwn t w g qs):FRaw t w g qs.length:=by obtain⟨es,zs,h1,h2,rfl⟩:=h;exact⟨es++zs,h1,by simp⟩
theorem FOwn.below(h:FOwn t w g qs)(hb:Below w.heap.size w w'):FOwn t w' g qs:=by
 obtain⟨es,zs,h1,h2,h3⟩:=h;exact⟨es,zs,Zc hb h1,λe he=>(h2 e he).below hb,h3⟩
theorem FOwn.lt(h:FOwn t w g qs):g<w.heap.size:=h.raw.lt
theorem FOwn.at_(h:FOwn t w g qs){i:Nat}(hi:i<qs.length):∃ na A k c nb B m d,w.cell? ⟨g,i*4,none⟩=some (.bool na)/\w.cell? ⟨g,i*4+1,none⟩=some (.slice A k c)/\w.cell? ⟨g,i*4+2,none⟩=some (.bool nb)/\w.cell? ⟨g,i*4+3,none⟩=some (.slice B m d)/\Fr w na A k c nb B m d (qs[i]?.getD 0):=by
 obtain⟨es,zs,h1,h2,rfl⟩:=h;have hl:i<es.length:=by simpa using hi
 have he:=QA hl;have hc:=Zgz (es:=es++zs) (i:=i) (e:=es[i]) (by rw[Qn hl];exact he);refine⟨_,_,_,_,_,_,_,_,by rw[h1.cell];exact hc.1,by rw[h1.cell];exact hc.2.1,by rw[h1.cell];exact hc.2.2.1,by rw[h1.cell];exact hc.2.2.2,?_⟩;rw[QM,he];exact h2 _ (QP hl)
theorem FOwn.fl(h:FOwn t w g qs){c:Nat}(hc:qs.length<=c)(hm:c<=maxLen):FL w (some ⟨g,0,none⟩) qs.length c qs:=by
 obtain⟨es,zs,h1,h2,rfl⟩:=h;rw[Qj]at hc ⊢;refine⟨es,rfl,hc,hm,h2,rfl,λ_=>⟨g,0,rfl,λk e he=>?_⟩⟩;have hk:k<es.length:=(List.getElem?_eq_some_iff.1 he).1;have hc:=Zgz (es:=es++zs) (i:=k) (e:=e) (by rw[Qn hk];exact he);simp only[Qv,h1.cell];exact hc
theorem OwnF.fown{base:Nat}{v:Value}(h:OwnF t w base v qs):(v=.slice none 0 0/\qs=[]) \/ ∃ g c,v=.slice (some ⟨g,0,none⟩) qs.length c/\base<=g/\qs.length<=c/\c<=maxLen/\FOwn t w g qs:=by
 obtain⟨es,h1,h2,rfl⟩:=h;rcases h1 with ⟨rfl,rfl⟩|⟨g,sp,rfl,h4,h5,h6⟩;exact .inl ⟨rfl,rfl⟩;exact .inr ⟨g,_,by rw[Qj],h4,by rw[Qj];omega,h5,es,Qf sp Zbu,h6,h2,rfl⟩
end
theorem Zwd{t:Array Value}{d:Nat}{u:Value}(h:t[d]?=some u):t.setIfInBounds d u=t:=by
 apply Array.ext;simp;intro i h1 h2;rw[Array.getElem_setIfInBounds (by simpa using h1)]
 split
 ·rename_i e
  subst e;rw[Qh h2]at h;injection h with h
  exact h.symm
 rfl
section
variable{P:Program}{ops:Array Oper}{Q:Exit->Act->World->Prop}{md:Region.Mode}{L:List Nat}{S:World->Prop}{f1 f2 d1 d2 F:Nat}{t1 t2:TypeId}{z1 z2:Array Value}
theorem Zj{i:Nat}{o:Oper}{K:Act->World->Prop}{a:Act}{w:World}(ho:ops[i]?=some o)
    (h:∀ K':Act->World->Prop,Shut (∀ a w,K a w->K' a w)->if Region.wanted o (yielded ops a.tmps)=true then Oper.wp P o a w K' Q else K' (a.put o.dst undef) w):wpOp P ops Q i K a w:=
 wpOp_step ho (λK' hK=>h K' hK)
end
def Zal(md:Region.Mode)(ops:Array Oper)(i:Nat):List Nat:=match ops[i]? with|some o=>(o.after.toList.filter (λe=>Region.binds md e)).map (·.on)|none=>[]
def Zaf(ops:Array Oper)(i:Nat):Nat:=match ops[i]? with|some o=>o.dst.getD 0|none=>0
def Za7(R:List Nat)(l:Array Bool):Array Bool:=R.foldl (λl i=>l.setIfInBounds i true) l
def Zkz(md:Region.Mode)(ops:Array Oper):List Nat->Array Bool->Bool
 | [],_=>true
 | r::rs,l=>!l.getD r true && (match ops[r]? with|some o=>o.dst.isSome|none=>false) && (Zal md ops r).all (λp=>l.getD p false) && Zkz md ops rs (l.setIfInBounds r true)
def clo(md:Region.Mode)(ops:Array Oper):List Nat->List Nat->List Nat
 | [],c=>c
 | r::rs,c=>clo md ops rs (if c.contains r then Zal md ops r++c else c)
def outOk(md:Region.Mode)(ops:Array Oper)(R:List Nat)(l:Array Bool):Bool:=
 (QS ops.size).all λk=>R.contains k || l.getD k true || (Zal md ops k).any (λp=>!R.contains p && !l.getD p false) || (R.all λr=>(clo md ops R.reverse (Zal md ops k)).contains r)
def Zbq:List Nat->Bool
 | []=>true
 | x::l=>!l.contains x && Zbq l
def Zlc(md:Region.Mode)(ops:Array Oper)(R:List Nat)(l:Array Bool):Bool:=Zkz md ops R l && outOk md ops R l && Zbq (R.map (Zaf ops)) && decide (l.size=ops.size)
def Zaj:List Nat->Act->(Nat->Value)->Act
 | [],a,_=>a
 | d::ds,a,ν=>Zaj ds (a.put (some d) (ν d)) ν
def upd(ν:Nat->Value)(d:Nat)(v:Value):Nat->Value:=λk=>if k=d then v else ν k
theorem Zu5{a:Act}{d e:Nat}{u v:Value}(h:d≠e):(a.put (some d) u).put (some e) v=(a.put (some e) v).put (some d) u:=by
 simp only[QI];rw[QB _ _ h]
theorem Zs4{ds:List Nat}{a:Act}{ν:Nat->Value}{d:Nat}{v:Value}(h:d ∉ ds):Zaj ds (a.put (some d) v) ν=(Zaj ds a ν).put (some d) v:=by
 induction ds generalizing a with
 | nil=>rfl
 | cons e ds ih =>
  have h1:d≠e:=λh'=>h (h'▸Qb ..);show Zaj ds ((a.put (some d) v).put (some e) (ν e)) ν=_;rw[Zu5 h1,ih (λh'=>h (Qa _ h'))];rfl
theorem Zl8{ds:List Nat}{a:Act}{ν:Nat->Value}{d:Nat}{v:Value}(h:d ∉ ds):Zaj ds a (upd ν d v)=Zaj ds a ν:=by
 induction ds generalizing a with
 | nil=>rfl
 | cons e ds ih =>
  have h1:e≠d:=λh'=>h (h'▸Qb ..);show Zaj ds (a.put (some e) (upd ν d v e)) (upd ν d v)=Zaj ds (a.put (some e) (ν e)) ν;rw[ih (λh'=>h (Qa _ h'))];simp only[upd,Gw h1]
theorem put_put{a:Act}{d:Nat}{u v:Value}:(a.put (some d) u).put (some d) v=a.put (some d) v:=by
 simp only[QI];rw[Array.setIfInBounds_setIfInBounds]
theorem Zb0{x:Nat}{l:List Nat}(h:Zbq (x::l)=true):x ∉ l/\Zbq l=true:=by
 simp only[Zbq,Qd,Qg]at h;exact⟨λhx=>by rw[List.contains_iff_mem.2 hx]at h;exact absurd h.1 Gh,h.2⟩
theorem Zhi{ds:List Nat}{a:Act}{ν:Nat->Value}{d:Nat}{v:Value}(h:d ∈ ds)(hn:Zbq ds=true):(Zaj ds a ν).put (some d) v=Zaj ds a (upd ν d v):=by
 induction ds generalizing a with
 | nil=>cases h
 | cons e ds ih =>
  obtain⟨h1,h2⟩:=Zb0 hn;show (Zaj ds (a.put (some e) (ν e)) ν).put (some d) v=Zaj ds (a.put (some e) (upd ν d v e)) (upd ν d v);by_cases hd:d=e
  ·subst hd
   rw[<- Zs4 h1,put_put,Zl8 h1];simp only[upd,if_true]
  rcases List.mem_cons.1 h with h'|h';exact absurd h' hd;rw[ih h' h2];simp only[upd,Gw (Qt hd)]
theorem Zkd{ds:List Nat}{a:Act}:Zaj ds a (λd=>a.tmps.getD d undef)=a:=by
 induction ds with
 | nil=>rfl
 | cons d ds ih =>
  show Zaj ds (a.put (some d) (a.tmps.getD d undef)) _=a
  have:a.put (some d) (a.tmps.getD d undef)=a:=by
   cases a with
   | mk t df =>
    simp only[QI];congr 1;rcases Nat.lt_or_ge d t.size with h|h;exact Zwd (by rw[Qc,Qh h];rfl);exact Array.setIfInBounds_eq_of_size_le h
  rw[this];exact ih
theorem Zbv(R:List Nat)(l:Array Bool)(k:Nat):(Za7 R l).getD k true=if k ∈ R then true else l.getD k true:=by
 unfold Za7
 induction R generalizing l with
 | nil=>simp
 | cons r R ih =>
  rw[QT,ih];by_cases h1:k ∈ R;rw[Gx h1,Gx (Qa _ h1)];rw[Gw h1];by_cases h2:k=r
  ·subst h2
   rw[Gx (Qb ..)];rw[Qc,Qk]
   split
   ·split <;> rfl
   rename_i h;exact absurd rfl h
  rw[Gw (λh=>by rcases List.mem_cons.1 h with h|h;exact h2 h;exact h1 h),Go.getD_set_ne true (Qt h2)]
theorem Zei(R:List Nat)(l:Array Bool):(Za7 R l).size=l.size:=by
 unfold Za7
 induction R generalizing l with
 | nil=>rfl
 | cons r R ih=>rw[QT,ih];simp
theorem Zkj{l m:Array Bool}(hs:l.size=m.size)(h:∀ k,l.getD k true=m.getD k true):l=m:=by
 apply Array.ext hs;intro i h1 h2;have:=h i;rw[Qc,Qc,Qh h1,Qh h2]at this;exact this
section
variable{P:Program}{ops:Array Oper}{Q:Exit->Act->World->Prop}{md:Region.Mode}{L:List Nat}{S:World->Prop}
theorem Zl5{l:Array Bool}{R:List Nat}(hd:∀ r ∈ R,l.getD r false=true->∀ p ∈ Zal md ops r,l.getD p false=true) :
    ∀ (rs:List Nat) (c:List Nat),(∀ r ∈ rs,r ∈ R)->(∀ x ∈ c,l.getD x false=true)->∀ x ∈ clo md ops rs c,l.getD x false=true
 | [],c,_,hc,x,hx=>hc x hx
 | r::rs,c,hr,hc,x,hx=>by
  refine Zl5 hd rs _ (λy hy=>hr y (Qa _ hy)) (λy hy=>?_) x hx
  split at hy
  ·rename_i h1
   rcases List.mem_append.1 hy with h2|h2;exact hd r (hr r (Qb ..)) (hc r (List.contains_iff_mem.1 h1)) y h2;exact hc y h2
  exact hc y hy
theorem Zct{l:Array Bool}{k:Nat}(h:l.getD k false=true):l.getD k true=true:=by
 rw[Qc]at h ⊢;cases hk:l[k]? with
 | none=>rfl
 | some b=>rw[hk]at h;exact h
theorem Zai{l:Array Bool}{k j:Nat}(h:l.getD k false=true):(l.setIfInBounds j true).getD k false=true:=by
 by_cases hkj:j=k
 ·subst hkj
  rw[Qc,Qi];rw[Qc]at h
  split
  rfl;rename_i h1;rw[QD Gk]at h;cases h
 rw[Go.getD_set_ne false hkj];exact h
theorem IH{G:Prop}(h:G:=by
 rw[Array.getD_eq_getD_getElem?,Array.getElem?_eq_getElem ij]at eQ ⊢;exact eQ):G:=h
theorem FB{G:Prop}(h:G:=by
 rcases Nat.lt_or_ge r l0.size with h'|h';exact h';rw[Array.getD_eq_getD_getElem?,Array.getElem?_eq_none h']at h1;cases h1):G:=h
theorem FZ{G:Prop}(h:G:=by
 refine⟨h1,?_⟩;cases ho:ops[x]? with
 | none=>rw[ho]at h2;cases h2
 | some o =>
  rw[ho]at h2;obtain⟨d,hd⟩:=Option.isSome_iff_exists.1 h2;exact⟨o,d,rfl,hd⟩):G:=h
theorem Zi7:∀ (R:List Nat) (l0:Array Bool),Zkz md ops R l0=true->(∀ r ∈ R,l0.getD r true=false/\∃ o d,ops[r]?=some o/\o.dst=some d) /\
      ∀ l:Array Bool,l.size=l0.size->(∀ k,l0.getD k false=true->l.getD k false=true)->(∃ r ∈ R,l.getD r true=false)->∃ r ∈ R,l.getD r true=false/\∀ p ∈ Zal md ops r,l.getD p false=true
 | [],_,_=>⟨λr hr=>(by cases hr),λl _ _ ⟨r,hr,_⟩=>(by cases hr)⟩
 | r::R,l0,h=>by
  simp only[Zkz,Qd,Qg,Qe]at h;obtain⟨⟨⟨h1,h2⟩,h3⟩,h4⟩:=h;obtain⟨k1,k2⟩:=Zi7 R _ h4;refine⟨λx hx=>?_,λl hsz hl hu=>?_⟩
  ·rcases List.mem_cons.1 hx with rfl|hx
   exact FZ;obtain⟨m1,m2⟩:=k1 x hx;refine⟨?_,m2⟩;by_cases hxr:r=x
   ·subst hxr
    exact h1
   rw[Go.getD_set_ne true hxr]at m1;exact m1
  by_cases hr:l.getD r true=false;exact⟨r,Qb ..,hr,λp hp=>hl p (h3 p hp)⟩;have eQ:l.getD r true=true:=by simpa using hr
  have C:r<l0.size:=by
   exact FB
  have ij:r<l.size:=Gk
  have u:l.getD r false=true:=by
   exact IH
  obtain⟨x,hx,f⟩:=k2 l (by simp;exact hsz) (λk hk=>by
   by_cases hkr:r=k;subst hkr;exact u
   ·rw[Go.getD_set_ne false hkr]at hk;exact hl k hk) (by
   obtain⟨y,hy,e⟩:=hu;rcases List.mem_cons.1 hy with rfl|hy;exact absurd e hr;exact⟨y,hy,e⟩)
  exact⟨x,Qa _ hx,f⟩
theorem Zjt{R:List Nat}{l:Array Bool}(h:Zlc md ops R l=true):Zkz md ops R l=true/\outOk md ops R l=true/\Zbq (R.map (Zaf ops))=true/\l.size=ops.size:=by
 simp only[Zlc,Qd,decide_eq_true_eq]at h;exact⟨h.1.1.1,h.1.1.2,h.1.2,h.2⟩
theorem Zgj{i:Nat}{l:Array Bool}(h:i ∈ Region.ready md ops l):l.getD i true=false/\i<ops.size/\∀ p ∈ Zal md ops i,l.getD p false=true:=by
 obtain⟨h1,o,ho,h2⟩:=mem_ready.1 h;refine⟨h1,(Array.getElem?_eq_some_iff.1 ho).1,λp hp=>?_⟩;unfold Zal at hp;rw[ho]at hp;obtain⟨e,he,rfl⟩:=List.mem_map.1 hp;rw[QU]at he;exact h2 e (by simpa using he.1) he.2
theorem Zeu{i:Nat}{l:Array Bool}(h1:l.getD i true=false){o:Oper}(ho:ops[i]?=some o)(h:∀ p ∈ Zal md ops i,l.getD p false=true):i ∈ Region.ready md ops l:=by
 refine mem_ready.2 ⟨h1,o,ho,λe he hb=>h _ ?_⟩;unfold Zal;rw[ho];exact List.mem_map.2 ⟨e,List.mem_filter.2 ⟨by simpa using he,hb⟩,rfl⟩
def Zcy(R:List Nat)(l:Array Bool):Nat:=(R.filter λr=>!l.getD r true).length
theorem Zui{R:List Nat}{l:Array Bool}(h:Zcy R l=0):∀ r ∈ R,l.getD r true=true:=λr hr=>by
 have h1:=Qx h;rw[QE]at h1;simpa using h1 r hr
theorem Zhw{f:Nat->Nat}:∀ {R:List Nat},Zbq (R.map f)=true->Zbq R=true
 | [],_=>rfl
 | r::R,h=>by
  obtain⟨h1,h2⟩:=Zb0 (x:=f r) (l:=R.map f) h;simp only[Zbq,Qd,Qg];refine⟨?_,Zhw h2⟩;cases hc:R.contains r with
  | false=>rfl
  | true=>exact absurd (List.mem_map.2 ⟨r,List.contains_iff_mem.1 hc,rfl⟩) h1
theorem Zek{f:Nat->Nat}:∀ {R:List Nat},Zbq (R.map f)=true->∀ {r i:Nat},r ∈ R->i ∈ R->r≠i->f r≠f i
 | [],_,_,_,h,_,_=>by cases h
 | x::R,h,r,i,hr,hi,hne=>by
  obtain⟨h1,h2⟩:=Zb0 (x:=f x) (l:=R.map f) h;rcases List.mem_cons.1 hr with u|u
  ·rcases List.mem_cons.1 hi with o|o
   exact absurd (u.trans o.symm) hne;exact λe=>h1 (List.mem_map.2 ⟨i,o,by rw[<- e,u]⟩)
  rcases List.mem_cons.1 hi with o|o;exact λe=>h1 (List.mem_map.2 ⟨r,u,by rw[e,o]⟩);exact Zek h2 u o hne
theorem Zte{R:List Nat}{l:Array Bool}{i:Nat}(hi:i ∉ R):Zcy R (l.setIfInBounds i true)=Zcy R l:=by
 unfold Zcy;congr 1;apply List.filter_congr;intro r hr;rw[Go.getD_set_ne true (λe:i=r=>hi (e▸hr))]
theorem Zii{R:List Nat}{l:Array Bool}{i:Nat}(hn:Zbq R=true)(hi:i ∈ R)(h:l.getD i true=false):Zcy R (l.setIfInBounds i true)+1=Zcy R l:=by
 have f:i<l.size:=by
  rcases Nat.lt_or_ge i l.size with h'|h';exact h';rw[Qc,QD h']at h;cases h
 have e:(l.setIfInBounds i true).getD i true=true:=by
  rw[Qc,Qi,Gx f];rfl
 induction R with
 | nil=>cases hi
 | cons r R ih =>
  obtain⟨n1,n2⟩:=Zb0 hn;by_cases hr:i=r
  ·subst hr
   have:=Zte (l:=l) n1;unfold Zcy at this ⊢;rw[Qq (by simp[e]),Qr (by simp[h]),this];rfl
  have o:i ∈ R:=by
    rcases List.mem_cons.1 hi with h'|h';exact absurd h' hr;exact h'
  have:=ih n2 o;unfold Zcy at this ⊢;by_cases hb:l.getD r true=true;rw[Qq (by rw[Go.getD_set_ne true hr];simp[hb]),Qq (by simp[hb])];exact this;rw[Qr (by rw[Go.getD_set_ne true hr];simpa using hb),Qr (by simpa using hb),Ql,Ql,this]
theorem Zju(R:List (Nat × Nat))(h:R.all (λp=>Zaf ops p.1 == p.2)=true):(R.map (·.1)).map (Zaf ops)=R.map (·.2):=by
 rw[List.map_map];apply List.map_congr_left;intro p hp;rw[Qe]at h;simpa using h p hp
end
section
variable{P:Program}{ops:Array Oper}{Q:Exit->Act->World->Prop}{md:Region.Mode}{L:List Nat}{S:World->Prop}
theorem Zi2{i:Nat}{oi:Oper}{v:Value}(hi:ops[i]?=some oi)(hsel:∀ (j:Nat) (o:Oper) cs b,ops[j]?=some o->o.op ≠ .select cs b)
    (hQ:∀ c a w,Q (.panic c) (a.put oi.dst v) w->Q (.panic c) a w) (hiL:L.contains i=false) :
    ∀ (fuel:Nat) (listed:Array Bool) (a:Act) (w:World),
     (∀ j oj,ops[j]?=some oj->j≠i->listed.getD j true=false->(∀ e ∈ oj.after,Region.binds md e=true->e.on≠i)->oi.apart ops oj=true) ->
     i ∈ Region.ready md ops listed->YieldsIf P ops (λ_=>True) oi v a->(Zb4 L listed=true->S w) ->
     Zu P md ops Q L S fuel (listed.setIfInBounds i true) (a.put oi.dst v) w->Zu P md ops Q L S (fuel+1) listed a w:=by
 have f:i ∉ L:=λh=>by
  rw[List.contains_iff_mem.2 h]at hiL;cases hiL
 intro fuel
 induction fuel with
 | zero =>
  intro listed a w _ hr hy hS H;refine⟨λh=>(by rw[h]at hr;cases hr),λj hj=>?_⟩;by_cases aC:j=i;subst aC;exact hy.wpOp hi trivial ⟨λh=>hS (by rwa [Zav f]at h),H⟩;have:=ready_mono hj aC;rw[H.1]at this;cases this
 | succ fuel ih =>
  intro listed a w aE hr hy hS H;refine⟨λh=>(by rw[h]at hr;cases hr),λj hj=>?_⟩;by_cases aC:j=i;subst aC;exact hy.wpOp hi trivial ⟨λh=>hS (by rwa [Zav f]at h),H⟩;have h1:=H.2 j (ready_mono hj aC);obtain⟨aS,oj,C,hall⟩:=mem_ready.1 hj
  have I:∀ e ∈ oj.after,Region.binds md e=true->e.on≠i:=λe he hb heq=>by
   exact Ed
  have h2:=wpOp_putIf C (aE j oj C aC aS I) (λcs b=>hsel i oi cs b hi) (λcs b=>hsel j oj cs b C) hQ hy h1
  have u:∀ k ok,ops[k]?=some ok->k≠i->(listed.setIfInBounds j true).getD k true=false ->
      (∀ e ∈ ok.after,Region.binds md e=true->e.on≠i)->oi.apart ops ok=true:=λk ok hk hki hun eO=>by
   exact EF
  refine wpOp_mono (λa' w' h3=>?_) h2
  have E:Zb4 L (listed.setIfInBounds j true)=true->S w':=λh=>h3.2.1 (by
   rw[QB _ _ (Qt aC),Zav f];exact h)
  refine⟨E,ih (listed.setIfInBounds j true) a' w' u (ready_mono hr (Qt aC)) h3.1 E ?_⟩;exact FH
theorem Zi{i:Nat}{oi:Oper}{v:Value}{fuel:Nat}{listed:Array Bool}{a:Act}{w:World}(hi:ops[i]?=some oi)
    (hs:Region.noSelect ops=true) (hf:Region.free md ops listed i=true) (hr:(Region.ready md ops listed).contains i=true) (hL:L.contains i=false)
    (hy:YieldsIf P ops (λ_=>True) oi v a) (hS:Zb4 L listed=true->S w)
    (h:Zu P md ops (OnlyNormal Q) L S fuel (listed.setIfInBounds i true) (a.put oi.dst v) w):Zu P md ops (OnlyNormal Q) L S (fuel+1) listed a w:=
 Zi2 hi (Region.noSelect_spec hs) (λ_ _ _ h=>(h:False).elim) hL fuel listed a w (Region.free_spec hi hf) (by simpa using hr) hy hS h
end
def Zfv(md:Region.Mode)(ops:Array Oper)(L:List Nat):List Nat->Array Bool->Bool
 | [],_=>true
 | i::is,l=>Region.free md ops l i && (Region.ready md ops l).contains i && !L.contains i && Zfv md ops L is (l.setIfInBounds i true)
section
variable{P:Program}{ops:Array Oper}{Q:Exit->Act->World->Prop}{md:Region.Mode}{L:List Nat}{S:World->Prop}
theorem Zfb(hs:Region.noSelect ops=true){w:World}(hS:S w):∀ (is:List Nat) (F:Nat) (listed:Array Bool) (a:Act),Zfv md ops L is listed=true->Zcm P ops (λ_=>True) is a (λa'=>Zu P md ops (OnlyNormal Q) L S F (Zdq is listed) a' w)->Zu P md ops (OnlyNormal Q) L S (F+is.length) listed a w
 | [],F,l,a,_,h=>h
 | i::is,F,l,a,hc,h=>by
  obtain⟨oi,v,ho,hy,h2⟩:=h;simp only[Zfv,Qd,Qg]at hc;exact Zi ho hs hc.1.1.1 hc.1.1.2 hc.1.2 hy (λ_=>hS) (Zfb hs hS is F _ _ hc.2 h2)
theorem Zfm{F:Nat}{listed:Array Bool}{a:Act}{w:World}(k:Nat)(is:List Nat)(hk:is.length=k)(hc:(Region.noSelect ops && Zfv md ops L is listed)=true)(hS:S w)
    (h:Zcm P ops (λ_=>True) is a (λa'=>Zu P md ops (OnlyNormal Q) L S F (Zdq is listed) a' w)):Zu P md ops (OnlyNormal Q) L S (F+k) listed a w:=by
 rw[Qd]at hc;subst hk;exact Zfb hc.1 hS is F listed a hc.2 h
end
def Zba(R:List Nat)(att:Nat->List Nat):List Nat:=R.flatMap λi=>i::att i
def Zhm(md:Region.Mode)(ops:Array Oper)(l:Array Bool)(i:Nat):List Nat->List Nat->Bool
 | [],_=>true
 | u::us,done=>(match ops[u]? with|some o=>o.dst.isSome|none=>false) && (Zal md ops u).contains i && !l.getD u true && (Zal md ops u).all (λp=>p == i || done.contains p || l.getD p false || (Zal md ops i).contains p) &&
     ((QS ops.size).all λj=>j == u || (j == i || done.contains j || l.getD j false || (Zal md ops i).contains j) || (Zal md ops j).contains u || (match ops[u]?,ops[j]? with|some ou,some oj=>ou.apart ops oj|_,_=>true)) && Zhm md ops l i us (u::done)
def Zsb(md:Region.Mode)(ops:Array Oper)(att:Nat->List Nat):List Nat->Array Bool->Bool
 | [],_=>true
 | r::rs,l=>!l.getD r true && (match ops[r]? with|some o=>o.dst.isSome|none=>false) && (Zal md ops r).all (λp=>l.getD p false) && Zsb md ops att rs (Za7 (r::att r) l)
def Zvz(md:Region.Mode)(ops:Array Oper)(R F:List Nat)(l:Array Bool):Bool:=
 (QS ops.size).all λk=>F.contains k || l.getD k true || (Zal md ops k).any (λp=>!F.contains p && !l.getD p false) || (R.all λr=>(clo md ops F.reverse (Zal md ops k)).contains r)
def Zkg(md:Region.Mode)(ops:Array Oper)(R:List Nat)(att:Nat->List Nat)(l:Array Bool):Bool:=
 Zsb md ops att R l && Zvz md ops R (Zba R att) l && Zbq ((Zba R att).map (Zaf ops)) && decide (l.size=ops.size) && R.all (λi=>Zhm md ops l i (att i) []) && Region.noSelect ops
section
variable{P:Program}{ops:Array Oper}{Q:Exit->Act->World->Prop}{md:Region.Mode}{L:List Nat}{S:World->Prop}
def Zpn(P:Program)(ops:Array Oper)(Φ:Nat->Value->World->Prop)(w:World):List Nat->Act->Prop
 | [],_=>True
 | u::us,a=>∃ o v,ops[u]?=some o/\YieldsIf P ops (λ_=>True) o v a/\Φ u v w/\Zpn P ops Φ w us (a.put o.dst v)
theorem Zgk{l:Array Bool}{i:Nat}(h:i<l.size):(l.setIfInBounds i true).getD i false=true:=by
 rw[Qc,Qi,Gx h];rfl
theorem Zcb{us:List Nat}{l:Array Bool}{k:Nat}(h:l.getD k false=true):(Za7 us l).getD k false=true:=by
 induction us generalizing l with
 | nil=>exact h
 | cons u us ih=>exact ih (l:=l.setIfInBounds u true) (Zai h)
theorem Zlj{us:List Nat}{l:Array Bool}{k:Nat}(hk:k ∈ us)(h:k<l.size):(Za7 us l).getD k false=true:=by
 induction us generalizing l with
 | nil=>cases hk
 | cons u us ih =>
  rcases List.mem_cons.1 hk with rfl|hk;exact Zcb (us:=us) (Zgk h);exact ih (l:=l.setIfInBounds u true) hk (by simp;exact h)
theorem Zrc{Φ:Nat->Value->World->Prop}{l0:Array Bool}{i:Nat}{R:List Nat}{a0:Act}{w:World}{F:Nat}(hns:Region.noSelect ops=true)(hnd:Zbq (R.map (Zaf ops))=true)(hiR:i ∈ R) :
    ∀ (us done:List Nat) (l:Array Bool) (ν:Nat->Value),Zhm md ops l0 i us done=true->(∀ u ∈ us,u ∈ R)->(∀ u ∈ us,u ∉ L)->(∀ u ∈ us,l.getD u true=false)->l.size=ops.size->Zbq us=true ->
     (∀ p,l0.getD p false=true->l.getD p false=true)->l.getD i false=true->(∀ p ∈ Zal md ops i,l.getD p false=true)->(∀ u ∈ done,l.getD u false=true)->S w ->
     Zpn P ops Φ w us (Zaj (R.map (Zaf ops)) a0 ν) ->
     (∀ ν',(∀ k,(∀ u ∈ us,Zaf ops u≠k)->ν' k=ν k)->(∀ u ∈ us,Φ u (ν' (Zaf ops u)) w)->Zu P md ops (OnlyNormal Q) L S F (Za7 us l) (Zaj (R.map (Zaf ops)) a0 ν') w) ->
     Zu P md ops (OnlyNormal Q) L S (us.length+F) l (Zaj (R.map (Zaf ops)) a0 ν) w:=by
 intro us
 induction us with
 | nil =>
  intro done l ν _ _ _ _ _ _ _ _ _ _ _ _ h;rw[show ([]:List Nat).length+F=F by simp];exact h ν (λ_ _=>rfl) (λu hu=>by cases hu)
 | cons u us ih =>
  intro done l ν hat hR hL hun hsz hndu hl0 hi hp hdone hS htr h;simp only[Zhm,Qd,Qe]at hat;obtain⟨⟨⟨⟨⟨h1,h2⟩,h3⟩,h4⟩,h5⟩,h6⟩:=hat;obtain⟨o,v,ho,hy,hΦ,C⟩:=htr;obtain⟨n1,n2⟩:=Zb0 hndu;have U:u<ops.size:=(Array.getElem?_eq_some_iff.1 ho).1;have O:=hun u (Qb ..)
  have f:u ∈ Region.ready md ops l:=Zeu O ho (λp hp2=>by
   have h7:=h4 p hp2;simp only[Qw,beq_iff_eq]at h7;rcases h7 with ((h7|h7)|h7)|h7;rw[h7];exact hi;exact hdone p (List.contains_iff_mem.1 h7);exact hl0 p h7;exact hp p (List.contains_iff_mem.1 h7))
  have E:o.dst=some (Zaf ops u):=by
   rw[ho]at h1;obtain⟨d,hd⟩:=Option.isSome_iff_exists.1 h1;unfold Zaf;rw[ho];simp only[hd,Option.getD_some]
  have I:Zaf ops u ∈ R.map (Zaf ops):=List.mem_map.2 ⟨u,hR u (Qb ..),rfl⟩;rw[Ql,QH]
  refine Zi2 ho (Region.noSelect_spec hns) (λ_ _ _ h=>(h:False).elim) (by
   cases hc:L.contains u with
   | false=>rfl
   | true=>exact absurd (List.contains_iff_mem.1 hc) (hL u (Qb ..))) _ l _ w (λj oj hoj hju hjl hnw=>?_) f hy (λ_=>hS) ?_
  ·have h7:=h5 j (List.mem_range.2 (Array.getElem?_eq_some_iff.1 hoj).1)
   simp only[Qw,beq_iff_eq]at h7;rcases h7 with ((h7|h7)|h7)|h7;exact absurd h7 hju
   ·exfalso
    have h8:l.getD j false=true:=by
     rcases h7 with ((h7|h7)|h7)|h7;rw[h7];exact hi;exact hdone j (List.contains_iff_mem.1 h7);exact hl0 j h7;exact hp j (List.contains_iff_mem.1 h7)
    rw[Zct h8]at hjl;cases hjl
   ·exfalso
    have h8:=List.contains_iff_mem.1 h7;unfold Zal at h8;rw[hoj]at h8;obtain⟨e,he,J⟩:=List.mem_map.1 h8;rw[QU]at he;exact hnw e (by simpa using he.1) he.2 J
   rw[ho,hoj]at h7;exact h7
  rw[E,Zhi I hnd];refine ih (u::done) (l.setIfInBounds u true) (upd ν (Zaf ops u) v) h6 (λx hx=>hR x (Qa _ hx)) (λx hx=>hL x (Qa _ hx)) (λx hx=>?_) (by simp;exact hsz) n2 (λp hp2=>Zai (hl0 p hp2)) (Zai hi) (λp hp2=>Zai (hp p hp2)) (λx hx=>?_) hS ?_ (λν' k1 k2=>?_)
  ·rw[Go.getD_set_ne true (λe:u=x=>n1 (e▸hx))]
   exact hun x (Qa _ hx)
  ·rcases List.mem_cons.1 hx with rfl|hx
   exact Zgk Gk;exact Zai (hdone x hx)
  ·rw[E,Zhi I hnd]at C
   exact C
  refine h ν' (λk hk=>?_) (λx hx=>?_)
  ·rw[k1 k (λx hx=>hk x (Qa _ hx))]
   simp only[upd,Gw (Qt (hk u (Qb ..)))]
  rcases List.mem_cons.1 hx with rfl|hx
  ·have h9:∀ y ∈ us,Zaf ops y≠Zaf ops x:=λy hy=>Zek hnd (hR y (Qa _ hy)) (hR x (Qb ..)) (λe=>n1 (e▸hy))
   rw[k1 _ h9];simp only[upd,if_true];exact hΦ
  exact k2 x hx
theorem Zlq{us:List Nat}{l:Array Bool}{k:Nat}(h:(Za7 us l).getD k false=true):k ∈ us \/ l.getD k false=true:=by
 induction us generalizing l with
 | nil=>exact .inr h
 | cons u us ih =>
  rcases ih (l:=l.setIfInBounds u true) h with h1|h1;exact .inl (Qa _ h1);by_cases hk:u=k;exact .inl (hk▸Qb ..);rw[Go.getD_set_ne false hk]at h1;exact .inr h1
theorem Zgi{us:List Nat}{l:Array Bool}{k:Nat}(h:(Za7 us l).getD k true=false):l.getD k true=false:=by
 rw[Zbv]at h
 split at h
 cases h;exact h
theorem Zia{att:Nat->List Nat}:∀ (R:List Nat) (l0:Array Bool),Zsb md ops att R l0=true->(∀ r ∈ R,l0.getD r true=false/\∃ o d,ops[r]?=some o/\o.dst=some d) /\
      ∀ l:Array Bool,l.size=l0.size->(∀ k,l0.getD k false=true->l.getD k false=true)->(∀ r ∈ R,l.getD r true=true->∀ u ∈ att r,l.getD u false=true)->(∃ r ∈ R,l.getD r true=false)->∃ r ∈ R,l.getD r true=false/\∀ p ∈ Zal md ops r,l.getD p false=true
 | [],_,_=>⟨λr hr=>(by cases hr),λl _ _ _ ⟨r,hr,_⟩=>(by cases hr)⟩
 | r::R,l0,h=>by
  simp only[Zsb,Qd,Qg,Qe]at h;obtain⟨⟨⟨h1,h2⟩,h3⟩,h4⟩:=h;obtain⟨k1,k2⟩:=Zia R _ h4;refine⟨λx hx=>?_,λl hsz hl hat hu=>?_⟩
  ·rcases List.mem_cons.1 hx with rfl|hx
   exact FZ;obtain⟨m1,m2⟩:=k1 x hx;exact⟨Zgi m1,m2⟩
  by_cases hr:l.getD r true=false;exact⟨r,Qb ..,hr,λp hp=>hl p (h3 p hp)⟩;have eQ:l.getD r true=true:=by simpa using hr
  have E:r<l0.size:=by
   exact FB
  have ij:r<l.size:=Gk
  have C:l.getD r false=true:=by
   exact IH
  obtain⟨x,hx,f⟩:=k2 l (by rw[Zei];exact hsz) (λk hk=>by
   rcases Zlq hk with h5|h5
   ·rcases List.mem_cons.1 h5 with rfl|h5
    exact C;exact hat r (Qb ..) eQ k h5
   ·exact hl k h5) (λy hy=>hat y (Qa _ hy)) (by
   obtain⟨y,hy,e⟩:=hu;rcases List.mem_cons.1 hy with rfl|hy;exact absurd e hr;exact⟨y,hy,e⟩)
  exact⟨x,Qa _ hx,f⟩
theorem Znx{R:List Nat}(hn:Zbq R=true):∀ (us:List Nat) (l:Array Bool),Zbq us=true->(∀ u ∈ us,u ∈ R)->(∀ u ∈ us,l.getD u true=false)->Zcy R (Za7 us l)+us.length=Zcy R l:=by
 intro us
 induction us with
 | nil=>intro l _ _ _;rfl
 | cons u us ih =>
  intro l h1 h2 h3;obtain⟨n1,n2⟩:=Zb0 h1;have h4:=Zii hn (h2 u (Qb ..)) (h3 u (Qb ..))
  have h5:=ih (l.setIfInBounds u true) n2 (λx hx=>h2 x (Qa _ hx)) (λx hx=>by
   rw[Go.getD_set_ne true (λe:u=x=>n1 (e▸hx))];exact h3 x (Qa _ hx))
  show Zcy R (Za7 us (l.setIfInBounds u true))+(us.length+1)=_;omega
theorem Zee:∀ {a b:List Nat},Zbq (a++b)=true->Zbq b=true
 | [],_,h=>h
 | _::a,_,h=>Zee (a:=a) (Zb0 h).2
theorem Zes:∀ {a b:List Nat},Zbq (a++b)=true->Zbq a=true
 | [],_,_=>rfl
 | x::a,b,h=>by
  obtain⟨h1,h2⟩:=Zb0 (x:=x) (l:=a++b) h;simp only[Zbq,Qd,Qg];refine⟨?_,Zes h2⟩;cases hc:a.contains x with
  | false=>rfl
  | true=>exact absurd (List.mem_append_left _ (List.contains_iff_mem.1 hc)) h1
theorem Zjv:∀ {a b:List Nat},Zbq (a++b)=true->∀ x,x ∈ a->x ∉ b
 | [],_,_,x,hx=>by cases hx
 | y::a,b,h,x,hx=>by
  obtain⟨h1,h2⟩:=Zb0 (x:=y) (l:=a++b) h;rcases List.mem_cons.1 hx with e|e;intro hb;exact h1 (List.mem_append_right _ (e▸hb));exact Zjv h2 x e
theorem Zp8{att:Nat->List Nat}:∀ {R:List Nat},Zbq (Zba R att)=true->∀ r ∈ R,Zbq (r::att r)=true/\∀ r' ∈ R,r'≠r->∀ x ∈ r::att r,x ∉ r'::att r'
 | [],_,r,hr=>by cases hr
 | y::R,h,r,hr=>by
  have e:Zba (y::R) att=(y::att y)++Zba R att:=rfl;rw[e]at h;have h1:=Zes h;have h2:=Zee h;have h3:=Zjv h;have f:∀ z ∈ R,∀ x ∈ z::att z,x ∈ Zba R att:=λz hz x hx=>List.mem_flatMap.2 ⟨z,hz,hx⟩;by_cases hry:r=y
  ·subst hry
   refine⟨h1,λr' hr' hne x hx hx2=>?_⟩;rcases List.mem_cons.1 hr' with h4|h4;exact hne h4;exact h3 x hx (f r' h4 x hx2)
  have o:r ∈ R:=by
    rcases List.mem_cons.1 hr with h4|h4;exact absurd h4 hry;exact h4
  obtain⟨k1,k2⟩:=Zp8 h2 r o;refine⟨k1,λr' hr' hne x hx hx2=>?_⟩;by_cases hr'y:r'=y
  ·subst hr'y
   exact h3 x hx2 (f r o x hx)
  rcases List.mem_cons.1 hr' with h4|h4;exact hr'y h4;exact k2 r' h4 hne x hx hx2
theorem IR{G:Prop}(h:G:=by
 have:=(Array.getElem?_eq_some_iff.1 ho).1;omega):G:=h
theorem EK{G:Prop}(h:G:=by
 have h4:=cn p hp;have h5:=Zct h4;rw[hK p ig]at h5
 have jJ:p<l.size:=by
  rcases Nat.lt_or_ge p l.size with h'|h';exact h';rw[Array.getD_eq_getD_getElem?,Array.getElem?_eq_none h']at h4;cases h4
 rw[Array.getD_eq_getD_getElem?,Array.getElem?_eq_getElem Gk]at h5 h3;simp only[Option.getD_some]at h5 h3;rw[h5]at h3;cases h3):G:=h
theorem Zv4(R:List Nat)(att:Nat->List Nat)(D:List Nat)(hDR:∀ i ∈ D,i ∈ R)(Φ:Nat->Value->World->Prop){l0:Array Bool}{a0:Act}{w0:World}(hok:Zkg md ops R att l0=true)(hL:∀ u ∈ Zba R att,u ∉ L)
    (hst:∀ i ∈ Zba R att,∀ v w w',Below w.heap.size w w'->Φ i v w->Φ i v w') (hS:∀ w',Below w0.heap.size w0 w'->S w') {F:Nat}
    (hop:∀ i ∈ R,∀ (ν:Nat->Value) (w:World),Below w0.heap.size w0 w->(∀ j ∈ Zba R att,j ∈ Zal md ops i->Φ j (ν (Zaf ops j)) w) ->
     wpOp P ops (OnlyNormal Q) i (λa' w'=>∃ v,a'=(Zaj ((Zba R att).map (Zaf ops)) a0 ν).put (some (Zaf ops i)) v/\Φ i v w'/\Below w.heap.size w w'/\Zpn P ops Φ w' (att i) a'/\(i ∈ D->∀ j ∈ D,∀ u,Φ j u w->v≠u)) (Zaj ((Zba R att).map (Zaf ops)) a0 ν) w)
    (hfin:∀ (ν:Nat->Value) (w:World),Below w0.heap.size w0 w->(∀ i ∈ Zba R att,Φ i (ν (Zaf ops i)) w)->(∀ i ∈ D,∀ j ∈ D,i≠j->ν (Zaf ops i)≠ν (Zaf ops j))->Zu P md ops (OnlyNormal Q) L S F (Za7 (Zba R att) l0) (Zaj ((Zba R att).map (Zaf ops)) a0 ν) w) :
    ∀ (n:Nat) (l:Array Bool) (ν:Nat->Value) (w:World),n=Zcy (Zba R att) l->l.size=l0.size->(∀ k,k ∉ Zba R att->l.getD k true=l0.getD k true)->(∀ k,l0.getD k false=true->l.getD k false=true) ->
     (∀ r ∈ Zba R att,l.getD r false=true->∀ p ∈ Zal md ops r,l.getD p false=true) ->
     (∀ r ∈ R,∀ u ∈ att r,(l.getD r true=true->l.getD u false=true)/\(l.getD r true=false->l.getD u true=false))->Below w0.heap.size w0 w->(∀ r ∈ Zba R att,l.getD r true=true->Φ r (ν (Zaf ops r)) w)->(∀ i ∈ D,∀ j ∈ D,i≠j->l.getD i true=true->l.getD j true=true->ν (Zaf ops i)≠ν (Zaf ops j)) ->
     Zu P md ops (OnlyNormal Q) L S (n+F) l (Zaj ((Zba R att).map (Zaf ops)) a0 ν) w:=by
 simp only[Zkg,Qd,decide_eq_true_eq]at hok;obtain⟨⟨⟨⟨⟨c6,b3⟩,a4⟩,d0⟩,a1⟩,c8⟩:=hok;rw[Qe]at a1;obtain⟨t1,t2⟩:=Zia R l0 c6;have a2:=Zhw a4;have E:∀ r ∈ R,r ∈ Zba R att:=λr hr=>List.mem_flatMap.2 ⟨r,hr,Qb ..⟩;have f:∀ r ∈ R,∀ u ∈ att r,u ∈ Zba R att:=λr hr u hu=>List.mem_flatMap.2 ⟨r,hr,Qa _ hu⟩
 have a8:∀ r ∈ R,∀ u ∈ att r,r ∈ Zal md ops u/\(∃ o,ops[u]?=some o):=λr hr=>by
  have:∀ (us done:List Nat),Zhm md ops l0 r us done=true->∀ u ∈ us,r ∈ Zal md ops u/\(∃ o,ops[u]?=some o):=by
   intro us
   induction us with
   | nil=>intro _ _ u hu;cases hu
   | cons x us ih =>
    intro done h u hu;simp only[Zhm,Qd]at h;rcases List.mem_cons.1 hu with rfl|hu
    ·refine⟨List.contains_iff_mem.1 h.1.1.1.1.2,?_⟩
     cases ho:ops[u]? with
     | none=>have:=h.1.1.1.1.1;rw[ho]at this;cases this
     | some o=>exact⟨o,rfl⟩
    exact ih _ h.2 u hu
  exact this (att r) [] (a1 r hr)
 intro n
 induction n using Nat.strongRecOn with
 | _ n ih =>
  intro l ν w hn hsz hK hM hD hA hb hΦ hNE
  have Y:∀ r ∈ Zba R att,r<l.size:=λx hx=>by
   obtain⟨r,hr,U⟩:=List.mem_flatMap.1 hx;rcases List.mem_cons.1 U with rfl|U
   ·obtain⟨-,o,d,ho,-⟩:=t1 x hr
    exact IR
   obtain⟨-,o,ho⟩:=a8 r hr x U;exact IR
  have d4:∀ k,k<l.size->l.getD k true=true->l.getD k false=true:=λk hk h=>by
   rw[Qc,Qh hk]at h ⊢;exact h
  by_cases hex:∃ r ∈ R,l.getD r true=false
  ·obtain⟨r,hr,b5,c3⟩:=t2 l hsz hM (λr hr h u hu=>(hA r hr u hu).1 h) hex
   obtain⟨-,o,d,ho,-⟩:=t1 r hr;have a3:=Zeu (md:=md) b5 ho c3
   obtain⟨m,rfl⟩:∃ m,n=m+1:=by
    have:=Zii a2 (E r hr) b5;exact⟨Zcy (Zba R att) (l.setIfInBounds r true),by omega⟩
   rw[QH];refine⟨λh0=>(by rw[h0]at a3;cases a3),λi hi=>?_⟩;obtain⟨a5,c7,cn⟩:=Zgj hi
   have O:i ∈ Zba R att:=by
    apply Classical.byContradiction;intro c2;unfold Zvz at b3;rw[Qe]at b3;have h1:=b3 i (List.mem_range.2 c7);simp only[Qw,List.any_eq_true,Qe,Qd,Qg]at h1;rcases h1 with ((h1|h1)|⟨p,hp,h2,h3⟩)|h1;exact c2 (List.contains_iff_mem.1 h1);rw[hK i c2,h1]at a5;cases a5
    ·have ig:p ∉ Zba R att:=λh=>by rw[List.contains_iff_mem.2 h]at h2;cases h2
     exact EK
    have h2:=Zl5 (md:=md) (ops:=ops) (l:=l) (R:=Zba R att) hD (Zba R att).reverse (Zal md ops i) (λr hr=>List.mem_reverse.1 hr) cn;have h3:=Zct (h2 r (List.contains_iff_mem.1 (h1 r hr)));rw[b5]at h3;cases h3
   have I:i ∈ R:=by
    obtain⟨r',J,hx⟩:=List.mem_flatMap.1 O;rcases List.mem_cons.1 hx with rfl|hx;exact J;exfalso;have h1:=Zct (cn r' (a8 r' J i hx).1);have h2:=Zct ((hA r' J i hx).1 h1);rw[a5]at h2;cases h2
   have c9:Zaf ops i ∈ (Zba R att).map (Zaf ops):=List.mem_map.2 ⟨i,O,rfl⟩;obtain⟨b9,b2⟩:=Zp8 a2 i I;obtain⟨ni,nus⟩:=Zb0 b9;refine wpOp_mono (λa' w' h=>?_) (hop i I ν w hb λj hj hp=>hΦ j hj (Zct (cn j hp)));obtain⟨v,rfl,hv,c1,c0,b7⟩:=h;have b6:=Gs hb c1;refine⟨λ_=>hS _ b6,?_⟩;rw[Zhi c9 a4]at c0 ⊢;have a9:(l.setIfInBounds i true).getD i false=true:=Zgk (Y i O)
   have b0:∀ u ∈ att i,(l.setIfInBounds i true).getD u true=false:=λu hu=>by
    rw[Go.getD_set_ne true (λe:i=u=>ni (e▸hu))];exact(hA i I u hu).2 a5
   have d3:=Zii a2 O a5;have d5:=Znx a2 (att i) (l.setIfInBounds i true) nus (f i I) b0;have hm:m=(att i).length+Zcy (Zba R att) (Za7 (att i) (l.setIfInBounds i true)):=Gk;rw[hm,Nat.add_assoc];refine Zrc (R:=Zba R att) c8 a4 O (att i) [] (l.setIfInBounds i true) _ (a1 i I) (f i I) (λu hu=>hL u (f i I u hu)) b0 Gg nus (λp hp=>Zai (hM p hp)) a9 (λp hp=>Zai (cn p hp)) (λu hu=>by cases hu) (hS _ b6) c0 (λν' k1 k2=>?_)
   have hνi:ν' (Zaf ops i)=v:=by
    rw[k1 _ (λu hu=>Zek a4 (f i I u hu) O (λe=>ni (e▸hu)))];simp only[upd,if_true]
   have hνo:∀ x ∈ Zba R att,x≠i->x ∉ att i->ν' (Zaf ops x)=ν (Zaf ops x):=λx hx h1 h2=>by
    rw[k1 _ (λu hu=>Zek a4 (f i I u hu) hx (λe=>h2 (e▸hu)))];simp only[upd,Gw (Zek a4 hx O h1)]
   refine ih _ Gk (Za7 (att i) (l.setIfInBounds i true)) ν' w' rfl (by rw[Zei];simp;exact hsz) (λk hk=>?_) (λk hk=>Zcb (Zai (hM k hk))) (λx hx hxt p hp=>?_) (λr' J u hu=>?_) b6 (λx hx hxt=>?_) (λa ha b hb' hab hat hbt=>?_)
   ·rw[Zbv,Gw (λh=>hk (f i I k h)),Go.getD_set_ne true (λe:i=k=>hk (e▸O))]
    exact hK k hk
   ·rcases Zlq hxt with h1|h1
    ·-- an operation of the train
     have h2:∀ (us done:List Nat),Zhm md ops l0 i us done=true->(∀ u ∈ done,(Za7 (att i) (l.setIfInBounds i true)).getD u false=true)->(∀ u ∈ us,u ∈ att i)->∀ u ∈ us,∀ p ∈ Zal md ops u,(Za7 (att i) (l.setIfInBounds i true)).getD p false=true:=by
      intro us
      induction us with
      | nil=>intro _ _ _ _ u hu;cases hu
      | cons y us ihu =>
       intro done h hd C u hu p hp;simp only[Zhm,Qd,Qe]at h;rcases List.mem_cons.1 hu with rfl|hu
       ·have h7:=h.1.1.2 p hp
        simp only[Qw,beq_iff_eq]at h7;rcases h7 with ((h7|h7)|h7)|h7;rw[h7];exact Zcb a9;exact hd p (List.contains_iff_mem.1 h7);exact Zcb (Zai (hM p h7));exact Zcb (Zai (cn p (List.contains_iff_mem.1 h7)))
       refine ihu (y::done) h.2 (λz hz=>?_) (λz hz=>C z (Qa _ hz)) u hu p hp;rcases List.mem_cons.1 hz with rfl|hz;exact Zlj (C z (Qb ..)) (by simp;exact Y z (f i I z (C z (Qb ..))));exact hd z hz
     exact h2 (att i) [] (a1 i I) (λu hu=>by cases hu) (λu hu=>hu) x h1 p hp
    by_cases hxi:i=x;subst hxi;exact Zcb (Zai (cn p hp));rw[Go.getD_set_ne false hxi]at h1;exact Zcb (Zai (hD x hx h1 p hp))
   ·by_cases hri:r'=i
    ·subst hri
     refine⟨λ_=>Zlj hu (by simp;exact Y u (f r' J u hu)),λh=>?_⟩;have h1:=Zgi h;rw[Zct a9]at h1;cases h1
    have b4:=b2 r' J hri;have c4:u ∉ att i:=λh=>b4 u (Qa _ h) (Qa _ hu);have c5:i≠u:=λh=>b4 i (Qb ..) (h▸Qa _ hu);have b1:r' ∉ att i:=λh=>b4 r' (Qa _ h) (Qb ..);refine⟨λh=>?_,λh=>?_⟩
    ·rw[Zbv,Gw b1,Go.getD_set_ne true (Qt hri)]at h
     exact Zcb (Zai ((hA r' J u hu).1 h))
    rw[Zbv,Gw b1,Go.getD_set_ne true (Qt hri)]at h;rw[Zbv,Gw c4,Go.getD_set_ne true c5];exact(hA r' J u hu).2 h
   ·by_cases hxi:x=i
    subst hxi;rw[hνi];exact hv;by_cases hxa:x ∈ att i;exact k2 x hxa;rw[hνo x hx hxi hxa];rw[Zbv,Gw hxa,Go.getD_set_ne true (Qt hxi)]at hxt;exact hst x hx _ _ _ c1 (hΦ x hx hxt)
   have b8:∀ x ∈ D,x ∉ att i:=λx hx h=>by
     by_cases hxi:x=i;exact ni (hxi▸h);exact b2 x (hDR x hx) hxi x (Qa _ h) (Qb ..)
   have a7:∀ x ∈ D,x≠i->(Za7 (att i) (l.setIfInBounds i true)).getD x true=true->ν' (Zaf ops x)=ν (Zaf ops x)/\l.getD x true=true:=λx hx hxi h=>by
    rw[Zbv,Gw (b8 x hx),Go.getD_set_ne true (Qt hxi)]at h;exact⟨hνo x (E x (hDR x hx)) hxi (b8 x hx),h⟩
   by_cases hai:a=i
   ·have a6:b≠i:=λh=>hab (hai.trans h.symm)
    obtain⟨e1,e2⟩:=a7 b hb' a6 hbt;rw[hai,hνi,e1];exact b7 (hai▸ha) b hb' _ (hΦ b (E b (hDR b hb')) e2)
   obtain⟨e1,e2⟩:=a7 a ha hai hat;by_cases a6:b=i
   ·rw[a6,hνi,e1]
    exact λh=>b7 (a6▸hb') a ha _ (hΦ a (E a (hDR a ha)) e2) h.symm
   obtain⟨e3,e4⟩:=a7 b hb' a6 hbt;rw[e1,e3];exact hNE a ha b hb' hab e2 e4
  have C:∀ x ∈ Zba R att,l.getD x true=true:=λx hx=>by
    obtain⟨r,hr,U⟩:=List.mem_flatMap.1 hx
    have h1:l.getD r true=true:=by
     cases h:l.getD r true with
     | true=>rfl
     | false=>exact absurd ⟨r,hr,h⟩ hex
    rcases List.mem_cons.1 U with rfl|U;exact h1;exact Zct ((hA r hr x U).1 h1)
  have h0:Zcy (Zba R att) l=0:=by
   unfold Zcy;rw[List.length_eq_zero_iff,QE];intro r hr;rw[C r hr];simp
  have:l=Za7 (Zba R att) l0:=by
   refine Zkj (by rw[Zei];exact hsz) λk=>?_;rw[Zbv];by_cases hk:k ∈ Zba R att;rw[Gx hk];exact C k hk;rw[Gw hk];exact hK k hk
  subst this;rw[hn,h0,Qv];exact hfin ν w hb (λi hi=>hΦ i hi (C i hi)) (λi hi j hj hij=>hNE i hi j hj hij (C i (E i (hDR i hi))) (C j (E j (hDR j hj))))
theorem Zpx(DP:List (Nat × Nat))(RP:List (Nat × Nat))(att:Nat->List Nat)(FP:List (Nat × Nat))(Φ:Nat->Value->World->Prop)(F:Nat){l0:Array Bool}{a0:Act}{w0:World}
    (hok:(Zkg md ops (RP.map (·.1)) att l0 && (Zba (RP.map (·.1)) att == FP.map (·.1)) && FP.all (λp=>Zaf ops p.1 == p.2) && RP.all (λp=>Zaf ops p.1 == p.2) && FP.all (λp=>!L.contains p.1) && DP.all (λp=>RP.contains p))=true)
    (hst:∀ p ∈ FP,∀ v w w',Below w.heap.size w w'->Φ p.1 v w->Φ p.1 v w') (hS:∀ w',Below w0.heap.size w0 w'->S w')
    (hop:∀ p ∈ RP,∀ (ν:Nat->Value) (w:World),Below w0.heap.size w0 w->(∀ q ∈ FP,(Zal md ops p.1).contains q.1=true->Φ q.1 (ν q.2) w) ->
     wpOp P ops (OnlyNormal Q) p.1 (λa' w'=>∃ v,a'=(Zaj (FP.map (·.2)) a0 ν).put (some p.2) v/\Φ p.1 v w'/\Below w.heap.size w w'/\Zpn P ops Φ w' (att p.1) a'/\(p ∈ DP->∀ q ∈ DP,∀ u,Φ q.1 u w->v≠u)) (Zaj (FP.map (·.2)) a0 ν) w)
    (hfin:∀ (ν:Nat->Value) (w:World),Below w0.heap.size w0 w->(∀ p ∈ FP,Φ p.1 (ν p.2) w)->(∀ p ∈ DP,∀ q ∈ DP,p≠q->ν p.2≠ν q.2)->Zu P md ops (OnlyNormal Q) L S F (Za7 (FP.map (·.1)) l0) (Zaj (FP.map (·.2)) a0 ν) w) :
    Zu P md ops (OnlyNormal Q) L S (FP.length+F) l0 a0 w0:=by
 simp only[Qd,beq_iff_eq]at hok;obtain⟨⟨⟨⟨⟨h1,h2⟩,h3⟩,h4⟩,h5⟩,h6⟩:=hok;rw[Qe]at h6;have hD:=Zju (ops:=ops) FP h3;rw[<- h2]at hD;rw[Qe]at h3 h4 h5
 have E:∀ i,i ∈ Zba (RP.map (·.1)) att->∃ p ∈ FP,p.1=i:=λi hi=>by
  rw[h2]at hi;exact List.mem_map.1 hi
 have Y:=h1;simp only[Zkg,Qd,decide_eq_true_eq]at h1;obtain⟨⟨⟨⟨⟨a1,-⟩,a4⟩,a3⟩,C⟩,-⟩:=h1;obtain⟨t1,-⟩:=Zia _ l0 a1
 have f:∀ i ∈ Zba (RP.map (·.1)) att,l0.getD i true=false:=λx hx=>by
  obtain⟨r,hr,I⟩:=List.mem_flatMap.1 hx;rcases List.mem_cons.1 I with rfl|I;exact(t1 x hr).1;rw[Qe]at C
  have:∀ (us done:List Nat),Zhm md ops l0 r us done=true->∀ u ∈ us,l0.getD u true=false:=by
   intro us
   induction us with
   | nil=>intro _ _ u hu;cases hu
   | cons y us ih =>
    intro done h u hu;simp only[Zhm,Qd,Qg]at h;rcases List.mem_cons.1 hu with rfl|hu;exact h.1.1.1.2;exact ih _ h.2 u hu
  exact this _ _ (C r hr) x I
 have U:Zcy (Zba (RP.map (·.1)) att) l0=FP.length:=by
  unfold Zcy;rw[List.filter_eq_self.2 (λr hr=>by rw[f r hr];rfl),h2,Qj]
 have h:=Zv4 (P:=P) (ops:=ops) (Q:=Q) (md:=md) (L:=L) (S:=S) (RP.map (·.1)) att (DP.map (·.1)) (λi hi=>by
  obtain⟨p,hp,rfl⟩:=List.mem_map.1 hi;exact List.mem_map.2 ⟨p,List.contains_iff_mem.1 (h6 p hp),rfl⟩) Φ (F:=F) (a0:=a0) (w0:=w0) Y (λu hu=>by
  obtain⟨p,hp,rfl⟩:=E u hu;have:=h5 p hp;intro hc;rw[List.contains_iff_mem.2 hc]at this;cases this) (λi hi=>by
  obtain⟨p,hp,rfl⟩:=E i hi;exact hst p hp) hS (λi hi ν w hb hP=>by
  obtain⟨p,hp,rfl⟩:=List.mem_map.1 hi
  have:=hop p hp ν w hb (λq hq hc=>by
   have o:=hP q.1 (by rw[h2];exact List.mem_map.2 ⟨q,hq,rfl⟩) (List.contains_iff_mem.1 hc);have e:=h3 q hq;simp only[beq_iff_eq]at e;rw[e]at o;exact o)
  have e:=h4 p hp;simp only[beq_iff_eq]at e;rw[hD,e];refine wpOp_mono (λa' w' h=>?_) this;obtain⟨v,k1,k2,k3,k4,k5⟩:=h;refine⟨v,k1,k2,k3,k4,λhi j hj u hu=>?_⟩;obtain⟨p',O,J⟩:=List.mem_map.1 hi;obtain⟨q',a2,rfl⟩:=List.mem_map.1 hj;have e1:=h4 p' (List.contains_iff_mem.1 (h6 p' O));simp only[beq_iff_eq]at e1;have:p'=p:=Prod.ext J (by rw[<- e1,<- e,J]);exact k5 (this▸O) q' a2 u hu) (λν w hb hf hne=>by
  rw[hD,h2]
  exact hfin ν w hb (λp hp=>by
   have o:=hf p.1 (by rw[h2];exact List.mem_map.2 ⟨p,hp,rfl⟩);have e:=h3 p hp;simp only[beq_iff_eq]at e;rw[e]at o;exact o) (λp hp q hq hpq=>by
   have e1:=h4 p (List.contains_iff_mem.1 (h6 p hp));have e2:=h4 q (List.contains_iff_mem.1 (h6 q hq));simp only[beq_iff_eq]at e1 e2;have:=hne p.1 (List.mem_map.2 ⟨p,hp,rfl⟩) q.1 (List.mem_map.2 ⟨q,hq,rfl⟩) (λh=>hpq (Prod.ext h (by rw[<- e1,<- e2,h])));rw[e1,e2]at this;exact this)) FP.length l0 (λd=>a0.tmps.getD d undef) w0 U.symm rfl (λ_ _=>rfl) (λ_ h=>h)
  (λr hr h=>by have h1:=Zct h;rw[f r hr]at h1;cases h1)
  (λr hr u hu=>⟨λh=>(by rw[f r (List.mem_flatMap.2 ⟨r,hr,Qb ..⟩)]at h;cases h),λ_=>f u (List.mem_flatMap.2 ⟨r,hr,Qa _ hu⟩)⟩)
  (Below.refl _ _) (λr hr h=>by rw[f r hr]at h;cases h)
  (λi hi j hj _ h _=>by
   obtain⟨p,hp,rfl⟩:=List.mem_map.1 hi;rw[f p.1 (List.mem_flatMap.2 ⟨p.1,List.mem_map.2 ⟨p,List.contains_iff_mem.1 (h6 p hp),rfl⟩,Qb ..⟩)]at h;cases h)
 rw[Zkd]at h;exact h
theorem Zbk(RP:List (Nat × Nat))(att:Nat->List Nat)(FP:List (Nat × Nat))(Φ:Nat->Value->World->Prop)(F:Nat){l0:Array Bool}{a0:Act}{w0:World}
    (hok:(Zkg md ops (RP.map (·.1)) att l0 && (Zba (RP.map (·.1)) att == FP.map (·.1)) && FP.all (λp=>Zaf ops p.1 == p.2) && RP.all (λp=>Zaf ops p.1 == p.2) && FP.all (λp=>!L.contains p.1))=true)
    (hst:∀ p ∈ FP,∀ v w w',Below w.heap.size w w'->Φ p.1 v w->Φ p.1 v w') (hS:∀ w',Below w0.heap.size w0 w'->S w')
    (hop:∀ p ∈ RP,∀ (ν:Nat->Value) (w:World),Below w0.heap.size w0 w->(∀ q ∈ FP,(Zal md ops p.1).contains q.1=true->Φ q.1 (ν q.2) w) ->
     wpOp P ops (OnlyNormal Q) p.1 (λa' w'=>∃ v,a'=(Zaj (FP.map (·.2)) a0 ν).put (some p.2) v/\Φ p.1 v w'/\Below w.heap.size w w'/\Zpn P ops Φ w' (att p.1) a') (Zaj (FP.map (·.2)) a0 ν) w)
    (hfin:∀ (ν:Nat->Value) (w:World),Below w0.heap.size w0 w->(∀ p ∈ FP,Φ p.1 (ν p.2) w)->Zu P md ops (OnlyNormal Q) L S F (Za7 (FP.map (·.1)) l0) (Zaj (FP.map (·.2)) a0 ν) w) :
    Zu P md ops (OnlyNormal Q) L S (FP.length+F) l0 a0 w0:=
 Zpx [] RP att FP Φ F (by rw[hok];rfl) hst hS (λp hp ν w hb hP=>wpOp_mono (λa' w' h=>by
  obtain⟨v,k1,k2,k3,k4⟩:=h;exact⟨v,k1,k2,k3,k4,λh=>by cases h⟩) (hop p hp ν w hb hP)) (λν w hb hf _=>hfin ν w hb hf)
end
def Zar(B0:Nat)(q:Rat)(ca mv x0 x1 al as_:Nat)(i:Nat)(v:Value)(w:World):Prop:=
 if i=ca \/ i=mv then ∃ na A n c nb B m d,v=.tuple #[.agg #[.bool na,.slice A n c,.bool nb,.slice B m d],.int .i64 0]/\Fr w na A n c nb B m d q
 else if i=x0 then ∃ na A n c nb B m d,v=.agg #[.bool na,.slice A n c,.bool nb,.slice B m d]/\Fr w na A n c nb B m d q
 else if i=x1 \/ i=as_ then v=.int .i64 0
 else if i=al then ∃ g,v=.pointer (some ⟨g,0,none⟩)/\B0<=g/\Blk w g 32 #[.bool false,.slice none 0 0,.bool false,.slice none 0 0]
 else True
theorem FU{G:Prop}(h:G:=by
 obtain⟨na,A,n,c,nb,B,m,d,e,hf⟩:=h;exact⟨na,A,n,c,nb,B,m,d,e,hf.below hb⟩):G:=h
theorem Zgg{B0:Nat}{q:Rat}{ca mv x0 x1 al as_ i:Nat}{v:Value}{w w':World}(hb:Below w.heap.size w w')(h:Zar B0 q ca mv x0 x1 al as_ i v w):Zar B0 q ca mv x0 x1 al as_ i v w':=by
 unfold Zar at h ⊢
 split at h
 ·rename_i h1;rw[Gx h1]
  exact FU
 rename_i h1;rw[Gw h1]
 split at h
 ·rename_i h2;rw[Gx h2]
  exact FU
 rename_i h2;rw[Gw h2]
 split at h
 rename_i h3;rw[Gx h3];exact h;rename_i h3;rw[Gw h3]
 split at h
 ·rename_i h4;rw[Gx h4]
  obtain⟨g,e,h5,h6⟩:=h;exact⟨g,e,h5,Zc hb h6⟩
 rename_i h4;rw[Gw h4];trivial
theorem FOwn.keptG{t:TypeId}{w w':World}{g:Nat}{qs:List Rat}{G:Nat->Prop}(h:FOwn t w g qs)(hk:Kept G w w')(hg:¬ G g)(hG:∀ k,G k->∃ t cs,Blk w k t cs/\NoLimb cs):FOwn t w' g qs:=by
 obtain⟨es,zs,h1,h2,h3⟩:=h;exact⟨es,zs,hk.blk h1 hg,λe he=>⟨hk.wd (h2 e he).1 hG,hk.wd (h2 e he).2 hG⟩,h3⟩
theorem Fr.zero_iff{w:World}{na:Bool}{A:Option Addr}{n c:Nat}{nb:Bool}{B:Option Addr}{m d:Nat}{r:Rat}(h:Fr w na A n c nb B m d r):n=0 ↔ r=0:=by
 have h1:=h.1.lim.len;have h2:=length_digits_pos (v:=r.num.natAbs);constructor
 ·intro hn
  have:r.num=0:=Gk;exact Rat.num_eq_zero.1 this
 rintro rfl;have:(0:Rat).num.natAbs=0:=rfl;omega
