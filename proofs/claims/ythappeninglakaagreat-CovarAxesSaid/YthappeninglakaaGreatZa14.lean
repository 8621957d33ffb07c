/- Package linear: dot. slices.Backward over rows: from the -/
import Derived.RangeFuncNested
import Derived.Test.YthappeninglakaaGreatZa13
set_option maxRecDepth 100000
set_option maxHeartbeats 8000000
set_option linter.unusedSimpArgs false
set_option linter.unusedVariables false
namespace Go.Proofs.YthappeninglakaaGreat
open Go.RowKit
open Below renaming refl→Qa
open Nat renaming lt_of_le_of_lt→Qb,le_refl→Qe,lt_of_lt_of_le→Qf,zero_le→Qj
open Act renaming put→Qc
open List renaming eq_nil_of_length_eq_zero→Qd,map_cons→Qg,getElem?_eq_getElem→Qh,map_nil→Qi,not_mem_nil→Qk
attribute [local go_sem] Zi Oper.semAt_some
def Zc3(ws:List Int)(a b:Nat->Int):Nat->Int
 | 0=>0
 | i+1=>Zc3 ws a b i+(ws[i]?.getD 0)*(a i*b i)
def Zir(v:Value)(z:Int)(w:World):Prop:=∃ na A n c,v=.agg #[.bool na,.slice A n c]/\Wd w na A n c z
def numT(v:Value)(z:Int)(w:World):Prop:=∃ na A n c,v=.tuple #[.agg #[.bool na,.slice A n c],.int .i64 0]/\Wd w na A n c z
theorem Zdu{v:Value}{z:Int}{w w':World}(hb:Below w.heap.size w w')(h:Zir v z w):Zir v z w':=by
 obtain⟨na,A,n,c,e,hf⟩:=h;exact⟨na,A,n,c,e,hf.below hb⟩
theorem Zvd{v:Value}{z:Int}{w w':World}(hb:Below w.heap.size w w')(h:numT v z w):numT v z w':=by
 obtain⟨na,A,n,c,e,hf⟩:=h;exact⟨na,A,n,c,e,hf.below hb⟩
def Ze6(x a b s:Int)(i:Nat)(v:Value)(w:World):Prop:=
 if i=2 then Zir v x w else if i=5 then v=.int .i64 a else if i=6 then Zir v a w else if i=9 then v=.int .i64 b else if i=10 then Zir v b w
 else if i=11 then Zir v (a*b) w else if i=12 then Zir v (x*(a*b)) w else if i=13 \/ i=14 then numT v (s+x*(a*b)) w else if i=15 then Zir v (s+x*(a*b)) w else if i=16 then v=.int .i64 0 else True
theorem Zt0{x a b s:Int}{i:Nat}{v:Value}{w w':World}(hb:Below w.heap.size w w')(h:Ze6 x a b s i v w):Ze6 x a b s i v w':=by
 unfold Ze6 at h ⊢
 split at h
 rename_i e;rw[Gx e];exact Zdu hb h;rename_i e;rw[Gw e];clear e
 split at h
 rename_i e;rw[Gx e];exact h;rename_i e;rw[Gw e];clear e
 split at h
 rename_i e;rw[Gx e];exact Zdu hb h;rename_i e;rw[Gw e];clear e
 split at h
 rename_i e;rw[Gx e];exact h;rename_i e;rw[Gw e];clear e
 split at h
 rename_i e;rw[Gx e];exact Zdu hb h;rename_i e;rw[Gw e];clear e
 split at h
 rename_i e;rw[Gx e];exact Zdu hb h;rename_i e;rw[Gw e];clear e
 split at h
 rename_i e;rw[Gx e];exact Zdu hb h;rename_i e;rw[Gw e];clear e
 split at h
 rename_i e;rw[Gx e];exact Zvd hb h;rename_i e;rw[Gw e];clear e
 split at h
 rename_i e;rw[Gx e];exact Zdu hb h;rename_i e;rw[Gw e];clear e
 split at h
 rename_i e;rw[Gx e];exact h;rename_i e;rw[Gw e];trivial
def Zi5(B0:Nat)(q:Rat)(i:Nat)(v:Value)(w:World):Prop:=
 if i=1 then Zir v 1 w else Za0 B0 q 2 3 4 5 6 5 i v w
theorem Zvh{B0:Nat}{q:Rat}{i:Nat}{v:Value}{w w':World}(hb:Below w.heap.size w w')(h:Zi5 B0 q i v w):Zi5 B0 q i v w':=by
 unfold Zi5 at h ⊢
 split at h
 rename_i e;rw[Gx e];exact Zdu hb h;rename_i e;rw[Gw e];exact Zhm hb h
theorem Zqk{z:Int}(h:I64 z):z.natAbs<=9223372036854775808:=by unfold I64 at h;omega
theorem big6:9223372036854775808*(9223372036854775808*9223372036854775808)*1000<pw 4096:=
 Qf (show _<pw 7 from by decide) (Zca Gj)
theorem Zo4{a b:Int}(ha:I64 a)(hb:I64 b):(a*b).natAbs<=9223372036854775808*9223372036854775808:=by
 rw[Int.natAbs_mul];exact Nat.mul_le_mul (Zqk ha) (Zqk hb)
theorem Zl0{x a b:Int}(hx:I64 x)(ha:I64 a)(hb:I64 b):(x*(a*b)).natAbs<=9223372036854775808*(9223372036854775808*9223372036854775808):=by
 rw[Int.natAbs_mul];exact Nat.mul_le_mul (Zqk hx) (Zo4 ha hb)
theorem two_pw{a b:Int}(ha:I64 a)(hb:I64 b):(a*b).natAbs<pw 4096:=
 Qb (Zo4 ha hb) (Nat.lt_trans Gj big6)
theorem Z1u{x a b:Int}(hx:I64 x)(ha:I64 a)(hb:I64 b):(x*(a*b)).natAbs<pw 4096:=
 Qb (Zl0 hx ha hb) (Nat.lt_trans Gj big6)
theorem Zkt{l:List Int}(h:∀ x ∈ l,I64 x)(i:Nat):I64 (l[i]?.getD 0):=by
 rcases Nat.lt_or_ge i l.length with h1|h1;rw[Qh h1];exact h _ (List.getElem_mem _);rw[List.getElem?_eq_none h1];unfold I64;decide
theorem Zpa{ws:List Int}{a b:Nat->Int}(hw:∀ x ∈ ws,I64 x):∀ (i:Nat),(∀ j,j<i->I64 (a j)/\I64 (b j))->(Zc3 ws a b i).natAbs<=9223372036854775808*(9223372036854775808*9223372036854775808)*i
 | 0,_=>by simp[Zc3]
 | i+1,h=>by
  have h1:=Zpa hw i (λj hj=>h j Gk);have h2:=Zl0 (Zkt hw i) (h i Gk).1 (h i Gk).2;have h3:=Int.natAbs_add_le (Zc3 ws a b i) ((ws[i]?.getD 0)*(a i*b i));rw[Nat.mul_add,Nat.mul_one];show (Zc3 ws a b i+(ws[i]?.getD 0)*(a i*b i)).natAbs<=_;exact Nat.le_trans h3 (Nat.add_le_add h1 h2)
theorem dotZ_pw{ws:List Int}{a b:Nat->Int}(hw:∀ x ∈ ws,I64 x){i:Nat}(hi:i<=1000)(h:∀ j,j<i->I64 (a j)/\I64 (b j)):(Zc3 ws a b i).natAbs<pw 4096:=
 Qb (Zpa hw i h) (Qb (Nat.mul_le_mul_left _ hi) big6)
theorem Wd.same{w:World}{na:Bool}{A:Option Addr}{n c:Nat}{y z:Int}(h:Wd w na A n c y)(e:y=z):Wd w na A n c z:=e▸h
theorem Zkw(z:Int):Rat.divInt z 1=(z:Rat):=by
 exact FG
theorem dot2{x a b s:Int}{v:Value}{w:World}(h:Ze6 x a b s 2 v w):Zir v x w:=h
theorem dot5{x a b s:Int}{v:Value}{w:World}(h:Ze6 x a b s 5 v w):v=.int .i64 a:=h
theorem dot6{x a b s:Int}{v:Value}{w:World}(h:Ze6 x a b s 6 v w):Zir v a w:=h
theorem dot9{x a b s:Int}{v:Value}{w:World}(h:Ze6 x a b s 9 v w):v=.int .i64 b:=h
theorem dot10{x a b s:Int}{v:Value}{w:World}(h:Ze6 x a b s 10 v w):Zir v b w:=h
theorem dot11{x a b s:Int}{v:Value}{w:World}(h:Ze6 x a b s 11 v w):Zir v (a*b) w:=h
theorem dot12{x a b s:Int}{v:Value}{w:World}(h:Ze6 x a b s 12 v w):Zir v (x*(a*b)) w:=h
theorem dot13{x a b s:Int}{v:Value}{w:World}(h:Ze6 x a b s 13 v w):numT v (s+x*(a*b)) w:=h
theorem dot14{x a b s:Int}{v:Value}{w:World}(h:Ze6 x a b s 14 v w):numT v (s+x*(a*b)) w:=h
theorem dot15{x a b s:Int}{v:Value}{w:World}(h:Ze6 x a b s 15 v w):Zir v (s+x*(a*b)) w:=h
theorem dot16{x a b s:Int}{v:Value}{w:World}(h:Ze6 x a b s 16 v w):v=.int .i64 0:=h
theorem end1{B0:Nat}{q:Rat}{v:Value}{w:World}(h:Zi5 B0 q 1 v w):Zir v 1 w:=h
theorem ER{G:Prop}(h:G:=by
 rintro e w5 ⟨ao,ce,A5,k5,c5,rfl,ar⟩;exact hK.out _ _ ⟨_,rfl,(by simp only[Ze6];exact⟨_,_,_,_,rfl,ar⟩),ao,trivial⟩):G:=h
theorem Zwy(Fa Fb:FuncId)(V U:Array Value)(A:Option Addr)(n c:Nat)(ws:List Int)(a b:Nat->Int)(w:World)(h:LimI w A n c ws)(hn:n<=900)
    (ha:∀ i,i<n->I64 (a i)) (hb:∀ i,i<n->I64 (b i))
    (hca:∀ (x:Value) (W:World),(callFunc Fa (#[x]++V)).run Tryz.prog W=.ok (.enter Fa (#[x]++V)) W)
    (hcb:∀ (x:Value) (W:World),(callFunc Fb (#[x]++U)).run Tryz.prog W=.ok (.enter Fb (#[x]++U)) W)
    (hA:∀ (W:World) (i:Nat),Below w.heap.size w W->i<n->Calls Tryz.prog Fa (#[.int .i64 i]++V) W λe W'=>e=.returned (.int .i64 (a i))/\Below W.heap.size W W')
    (hB:∀ (W:World) (i:Nat),Below w.heap.size w W->i<n->Calls Tryz.prog Fb (#[.int .i64 i]++U) W λe W'=>e=.returned (.int .i64 (b i))/\Below W.heap.size W W') :
    Calls Tryz.prog 94 #[.slice A n c,.func (.func Fa) #[] V,.func (.func Fb) #[] U] w (Zdp w ((Zc3 ws a b n:Int):Rat)):=by
 have hmx:=Gt;have f6:=h.1;have f7:=h.2.1;have f0:=h.2.2.1;unfold maxLen at f0;have e1:=Zd h.2.2.2.1;have hg:=Zd h.2.2.2.2;replace hA:=Zd hA;replace hB:=Zd hB;have e4:=Zd ha;have d6:=Zd hb;clear h ha hb;obtain⟨W0,e3,e5,⟨q0,q1⟩,s0⟩:=Zda w 41 #[.bool false,.slice none 0 0,.bool false,.slice none 0 0] 39 #[.bool false,.slice none 0 0];obtain⟨gr,a3⟩:=Gz w.heap.size;rw[a3]at q0 q1;obtain⟨gs,a4⟩:=Gz (gr+1);rw[a4]at q1;have f5:w.heap.size<=gr:=Gk;have e0:w.heap.size<=gs:=Gk;have e2:gr≠gs:=Gk;have d7:Wd W0 false none 0 0 0:=Wd.zero _;go_in;go_wp2_with fail;(try rw[e3]);(try rw[a3]);(try rw[a4]);replace a3:=Zd a3;replace a4:=Zd a4;clear e3 s0
 go_loopw [14] (λiv wr=>∃ (i:Nat) (sn:Bool) (sA:Option Addr) (sk sc:Nat),i<=n/\iv=.int .i64 i/\Wd wr sn sA sk sc (Zc3 ws a b i)/\Blk wr gs 39 #[.bool sn,.slice sA sk sc]/\Blk wr gr 41 #[.bool false,.slice none 0 0,.bool false,.slice none 0 0]/\Below w.heap.size w wr) (λiv _=>n-(intOf iv).toNat)
 case atStart=>exact⟨0,false,none,0,0,Qj _,rfl,d7,q1,q0,e5⟩
 case round =>
  clear q0 q1 e5 d7;obtain⟨i,sn,sA,sk,sc,f8,rfl,hs,qs,qr,I⟩:=hrel;obtain⟨s0,s1,s2,s3⟩:=qs.two;replace hs:=Zd hs;replace qs:=Zd qs;replace qr:=Zd qr;by_cases hin:i<n
  case neg =>
   obtain rfl:n=i:=Gk;have f3:decide ((n:Int)<(n:Int))=false:=Gh;generalize Zc3 ws a b n=D at *;go_wp2_with fail;have J:Hid (∀ wx,Below wr.heap.size wr wx->wx.cell? ⟨gs,0,none⟩=some (.bool sn)/\wx.cell? ⟨gs,1,none⟩=some (.slice sA sk sc)):=Zd (λwx f=>⟨Zc f s0,Zc f s1⟩);have C:Below wr.heap.size wr wr.drew:=Zh (Qa _ _) 1;refine wp_heldS [] hmx J C (λhxs2=>?_);refine Zkb 1 [0] rfl Gi (J.out _ C) ?_
   (refine tkA ?_;try simp only[Qc,Zg9,Zgn,Zg3,Gr,Gq,Gp])
   refine tk0 ?_;refine Za5 [(1,39),(2,40),(3,37),(4,41),(6,10)] (λi=>match i with|3=>[5]|_=>[]) [(1,39),(2,40),(3,37),(5,42),(4,41),(6,10)] (Zi5 wr.heap.size (D:Rat)) 2 Gi (λ_ _ _ _ _ hb h=>Zvh hb h) (λwx h=>J.out _ (Gs C h)) ?hop2 ?hfin2
   case hop2 =>
    intro p hp;simp only[List.mem_cons,Qk,or_false]at hp;simp only[Qg,Qi,Zaj,Qc,Zg9,Zgn,Zg3];rcases hp with rfl|rfl|rfl|rfl|rfl
    ·intro ν wx hb hP
     refine Zn (i:=1) rfl (λK hK=>?_);go_simp;refine(Zb3 1 wx Gj Gj).mono ?_;rintro e w5 ⟨ao,ce,A5,k5,c5,rfl,ar⟩;exact hK.out _ _ ⟨_,rfl,(by simp only[Zi5,Za0];exact⟨_,_,_,_,rfl,ar⟩),ao,trivial⟩
    ·intro ν wx hb hP
     have f:=Gs C hb;have h3:=end1 (hP (1,39) Gh Gi);obtain⟨a2,A3,k3,c3,hν3,O⟩:=h3;rw[hν3];obtain rfl:a2=false:=O.1;refine Zn (i:=2) rfl (λK hK=>?_);go_simp;refine(Zgj sn sA A3 sk sc k3 c3 D 1 wx (hs.out.below f) O Gj).mono ?_;rintro e w5 ⟨ao,ce,A5,k5,c5,e6,B5,m5,d5,rfl,ar⟩;rw[Zkw]at ar;exact hK.out _ _ ⟨_,rfl,(by simp only[Zi5,Za0];exact⟨_,_,_,_,_,_,_,_,rfl,ar⟩),ao,trivial⟩
    ·intro ν wx hb hP
     have h0:=hP (2,40) Gh Gi;simp only[Zi5,Za0]at h0;obtain⟨ce,A5,k5,c5,e6,B5,m5,d5,hν,ar⟩:=h0;rw[hν];refine Zn (i:=3) rfl (λK hK=>?_);go_simp;refine hK.out _ _ ⟨_,rfl,(by simp only[Zi5,Za0];exact⟨_,_,_,_,_,_,_,_,rfl,ar⟩),Qa _ _,?_⟩;exact⟨_,.int .i64 0,rfl,Or.inl ⟨by kernel_rfl,λW2 _=>by go_simp⟩,by simp[Zi5,Za0],trivial⟩
    ·intro ν wx hb hP
     have h0:=hP (3,37) Gh Gi;simp only[Zi5,Za0]at h0;obtain⟨ce,A5,k5,c5,e6,B5,m5,d5,hν,ar⟩:=h0;rw[hν];refine Zn (i:=4) rfl (λK hK=>?_);go_simp;exact hK.out _ _ ⟨_,rfl,(by simp only[Zi5,Za0];exact⟨_,_,_,_,_,_,_,_,rfl,ar⟩),Qa _ _,trivial⟩
    intro ν wx hb hP;refine Zn (i:=6) rfl (λK hK=>?_);go_simp;exact hK.out _ _ ⟨_,rfl,(by simp only[Zi5,Za0];exact⟨_,rfl,(Gs C hb).size,Blk.new _ _ _⟩),(Qa _ _).alloc (Qe _) _,trivial⟩
   case hfin2 =>
    intro ν wx hb hP;have h0:=end1 (hP (1,39) Gh);have h1:=hP (2,40) Gh;have h2:=hP (3,37) Gh;have h3:=hP (5,42) Gh;have h4:=hP (4,41) Gh;have h5:=hP (6,10) Gh;simp only[Zi5,Za0]at h1 h2 h4 h5;obtain⟨_,_,_,_,h0,-⟩:=h0;obtain⟨_,_,_,_,_,_,_,_,h1,-⟩:=h1;obtain⟨_,_,_,_,_,_,_,_,h2,-⟩:=h2;obtain⟨fn,fA,fk,fc,fm,fB,fj,fd,h4,d9⟩:=h4;obtain⟨gv,h5,kv,qv⟩:=h5;simp only[Qg,Qi,Zaj,Qc,Zg9,Zgn,Zg3];rw[h0,h1,h2,(show ν 42=Value.int .i64 0 by simpa [Zi5,Za0]using h3),h4,h5];clear h0 h1 h2 h3 h4 h5 hP ν;have f:=Gs C hb;have a9:=Ze f qr.out;have d8:gr≠gv:=by have:=qr.out.lt;omega
    obtain⟨V,hV,f4,q6,kV⟩:=Z5 (B:=gv) fn fA fk fc fm fB fj fd (Qa gv wx) (Qe _) qv
    have a8:Below w.heap.size w V:=by
     rw[<- hV];have b8:w.heap.size<=gv:=Nat.le_trans I.size kv;exact((((Gs I f).setCell (p:=⟨gv,0,none⟩) b8 _).setCell (p:=⟨gv,1,none⟩) b8 _).setCell (p:=⟨gv,2,none⟩) b8 _).setCell (p:=⟨gv,3,none⟩) b8 _
    have c7:Hid (Below wr.heap.size wr V):=Zd (by rw[<- hV];exact(((f.setCell (p:=⟨gv,0,none⟩) kv _).setCell (p:=⟨gv,1,none⟩) kv _).setCell (p:=⟨gv,2,none⟩) kv _).setCell (p:=⟨gv,3,none⟩) kv _);have c6:=Zd (Fr.keep d9 kV.1);have Y:=kV.2.1 gr _ _ d8 a9;obtain⟨y0,y1,y2,y3,y4,y5,y6,y7⟩:=qv.four;replace q6:=Zd q6;replace Y:=Zd Y;replace a8:=Zd a8;clear d9 kV a9 f4 qv;refine wpAnyL_o 7 λK hK=>?_;go_simp;(try rw[hV]);refine hK.out _ _ (λ_=>J.out _ (c7.out)) ?_;clear hK K
    try simp only[Qc,Zg9,Zgn,Zg3]
    refine Zgo 1 [8] rfl Gi (J.out _ c7.out) ?_
    (refine tkA ?_;try simp only[Qc,Zg9,Zgn,Zg3,Gr,Gq,Gp])
    refine tk0 ?_;refine wpAnyL_fin ?_;clear hV y0 y1 y2 y3 y4 y5 y6 y7 f hb C J hxs2 s0 s1 c7;obtain⟨z0,z1,z2,z3,-⟩:=q6.out.four;obtain⟨r0,r1,r2,r3,r4,r5,r6,r7⟩:=Y.out.four;go_wp2_with fail;obtain⟨X,hX,e8,q8,st⟩:=Z5 fn fA fk fc fm fB fj fd a8.out f5 Y.out;(try rw[hX]);obtain⟨x0,x1,x2,x3,-⟩:=q8.four;refine bodyPost_ret (v:=.agg #[.bool fn,.slice fA fk fc,.bool fm,.slice fB fj fd]) (by simp[results,Tryz.results94,go_sem,x0,x1,x2,x3]) rfl ?_;exact⟨e8,_,_,_,_,_,_,_,_,rfl,Fr.keep c6.out st.1⟩
  have f3:decide ((i:Int)<(n:Int))=true:=Gv Gk;obtain⟨g,o,rfl,d0⟩:=hg.out Gk;have ci:=(I.cell (Zp (d0 i hin))).trans (d0 i hin);clear d0;have hx:=Zkt e1.out i;have ha:=e4.out i hin;have a6:=d6.out i hin;have a1:(Zc3 ws a b i+(ws[i]?.getD 0)*(a i*b i)).natAbs<pw 4096:=dotZ_pw (i:=i+1) e1.out Gk (λj hj=>⟨e4.out j Gk,d6.out j Gk⟩);have y:Zc3 ws a b (i+1)=Zc3 ws a b i+(ws[i]?.getD 0)*(a i*b i):=rfl;rw[<- y]at a1;replace y:=Zd y;obtain⟨x,c2⟩:=Gz (ws[i]?.getD 0);obtain⟨a0,b1⟩:=Gz (a i);obtain⟨b0,b2⟩:=Gz (b i);obtain⟨s,c9⟩:=Gz (Zc3 ws a b i);replace y:=y.out;rw[c2,b1,b2,c9]at y;rw[y]at a1;rw[c2]at hx ci;rw[b1]at ha;rw[b2]at a6;rw[c9]at hs;replace a1:=Zd a1;replace y:=Zd y;replace b1:=Zd b1;replace b2:=Zd b2;clear c2 c9;go_wp2_with fail;have T:Hid (∀ wx,Below wr.heap.size wr wx->wx.cell? ⟨g,o+i,none⟩=some (.int .i64 x)/\wx.cell? ⟨gs,0,none⟩=some (.bool sn)/\wx.cell? ⟨gs,1,none⟩=some (.slice sA sk sc)):=Zd (λwx f=>⟨Zc f ci,Zc f s0,Zc f s1⟩);have u:Below wr.heap.size wr wr.drew:=Zh (Qa _ _) 1;refine wp_heldS [17] hmx T u (λhxs1=>?_);refine Zkb 1 [0] rfl Gi (T.out _ u) ?_
  (refine tkA ?_;try simp only[Qc,Zg9,Zgn,Zg3,Gr,Gq,Gp])
  refine tk0 ?_;refine Zgo 5 [1,3,4,7,8] rfl Gi (T.out _ u) ?_
  iterate 5 (refine tkA ?_;try simp only[Qc,Zg9,Zgn,Zg3,Gr,Gq,Gp])
  refine tk0 ?_;refine Za5 [(2,22),(5,25),(6,26),(9,29),(10,30),(11,31),(12,32),(13,33),(14,19)] (λi=>match i with|14=>[15,16]|_=>[]) [(2,22),(5,25),(6,26),(9,29),(10,30),(11,31),(12,32),(13,33),(14,19),(15,34),(16,35)] (Ze6 x a0 b0 s) 1 Gi (λ_ _ _ _ _ hb h=>Zt0 hb h) (λwx h=>T.out _ (Gs u h)) ?hop1 ?hfin1
  case hop1 =>
   intro p hp;simp only[List.mem_cons,Qk,or_false]at hp;simp only[Qg,Qi,Zaj,Qc,Zg9,Zgn,Zg3];rcases hp with rfl|rfl|rfl|rfl|rfl|rfl|rfl|rfl|rfl
   ·intro ν wx hb hP
    have f:=Gs u hb;refine Zn (i:=2) rfl (λK hK=>?_);go_simp;refine(Zb3 x wx hx.1 hx.2).mono ?_;exact ER
   ·intro ν wx hb hP
    have f:=Gs u hb;refine Zn (i:=5) rfl (λK hK=>?_);go_simp;refine(hA.out wx i (Gs I f) hin).mono ?_;rintro e w5 ⟨rfl,ao⟩;exact hK.out _ _ ⟨_,rfl,(show Value.int .i64 _=Value.int .i64 _ from by rw[b1.out]),ao,trivial⟩
   ·intro ν wx hb hP
    have f:=Gs u hb;have h3:=hP (5,25) Gh Gi;replace h3:=dot5 h3;rw[h3];refine Zn (i:=6) rfl (λK hK=>?_);go_simp;refine(Zb3 a0 wx ha.1 ha.2).mono ?_;exact ER
   ·intro ν wx hb hP
    have f:=Gs u hb;refine Zn (i:=9) rfl (λK hK=>?_);go_simp;refine(hB.out wx i (Gs I f) hin).mono ?_;rintro e w5 ⟨rfl,ao⟩;exact hK.out _ _ ⟨_,rfl,(show Value.int .i64 _=Value.int .i64 _ from by rw[b2.out]),ao,trivial⟩
   ·intro ν wx hb hP
    have f:=Gs u hb;have h3:=hP (9,29) Gh Gi;replace h3:=dot9 h3;rw[h3];refine Zn (i:=10) rfl (λK hK=>?_);go_simp;refine(Zb3 b0 wx a6.1 a6.2).mono ?_;exact ER
   ·intro ν wx hb hP
    have f:=Gs u hb;have h3:=hP (6,26) Gh Gi;replace h3:=dot6 h3;obtain⟨a2,A3,k3,c3,hν3,O⟩:=h3;rw[hν3];have h4:=hP (10,30) Gh Gi;replace h4:=dot10 h4;obtain⟨a5,A4,k4,c4,hν4,a7⟩:=h4;rw[hν4];refine Zn (i:=11) rfl (λK hK=>?_);go_simp;refine(Zik a2 a5 A3 A4 k3 c3 k4 c4 _ _ wx O a7 (two_pw ha a6)).mono ?_;exact ER
   ·intro ν wx hb hP
    have f:=Gs u hb;have h3:=hP (2,22) Gh Gi;replace h3:=dot2 h3;obtain⟨a2,A3,k3,c3,hν3,O⟩:=h3;rw[hν3];have h4:=hP (11,31) Gh Gi;replace h4:=dot11 h4;obtain⟨a5,A4,k4,c4,hν4,a7⟩:=h4;rw[hν4];refine Zn (i:=12) rfl (λK hK=>?_);go_simp;refine(Zik a2 a5 A3 A4 k3 c3 k4 c4 _ _ wx O a7 (Z1u hx ha a6)).mono ?_;exact ER
   ·intro ν wx hb hP
    have f:=Gs u hb;have h4:=hP (12,32) Gh Gi;replace h4:=dot12 h4;obtain⟨a5,A4,k4,c4,hν4,a7⟩:=h4;rw[hν4];refine Zn (i:=13) rfl (λK hK=>?_);go_simp;refine(Zk9 sn a5 sA A4 sk sc k4 c4 _ _ wx (hs.out.below f) a7).mono ?_;rintro e w5 ⟨ao,ce,A5,k5,c5,code,rfl,hR⟩;rcases hR with ⟨_,rfl,ar⟩|⟨e7,_⟩;exact hK.out _ _ ⟨_,rfl,(by simp only[Ze6];exact⟨_,_,_,_,rfl,ar⟩),ao,trivial⟩;exact absurd e7 (Nat.not_le.2 a1.out)
   intro ν wx hb hP;have f:=Gs u hb;have h3:=hP (13,33) Gh Gi;replace h3:=dot13 h3;obtain⟨a2,A3,k3,c3,hν3,O⟩:=h3;rw[hν3];refine Zn (i:=14) rfl (λK hK=>?_);go_simp;refine hK.out _ _ ⟨_,rfl,(by simp only[Ze6];exact⟨_,_,_,_,rfl,O⟩),Qa _ _,?_⟩;refine⟨_,.agg #[.bool a2,.slice A3 k3 c3],rfl,Or.inl ⟨by kernel_rfl,λW2 _=>by go_simp⟩,(by simp only[Ze6];exact⟨_,_,_,_,rfl,O⟩),?_⟩;exact⟨_,.int .i64 0,rfl,Or.inl ⟨by kernel_rfl,λW2 _=>by go_simp⟩,rfl,trivial⟩
  case hfin1 =>
   intro ν wx hb hP;have h2:=dot2 (hP (2,22) Gh);have h5:=dot5 (hP (5,25) Gh);have h6:=dot6 (hP (6,26) Gh);have h9:=dot9 (hP (9,29) Gh);have b6:=dot10 (hP (10,30) Gh);have b9:=dot11 (hP (11,31) Gh);have b7:=dot12 (hP (12,32) Gh);have b3:=dot13 (hP (13,33) Gh);have b4:=dot14 (hP (14,19) Gh);have b5:=dot15 (hP (15,34) Gh);have d4:=dot16 (hP (16,35) Gh);obtain⟨_,_,_,_,h2,-⟩:=h2;obtain⟨_,_,_,_,h6,-⟩:=h6;obtain⟨_,_,_,_,b6,-⟩:=b6;obtain⟨_,_,_,_,b9,-⟩:=b9;obtain⟨_,_,_,_,b7,-⟩:=b7;obtain⟨_,_,_,_,b3,-⟩:=b3;obtain⟨_,_,_,_,b4,-⟩:=b4;obtain⟨n5,A5,k5,c5,b5,ar⟩:=b5;simp only[Qg,Qi,Zaj,Qc,Zg9,Zgn,Zg3];rw[h2,h5,h6,h9,b6,b9,b7,b3,b4,b5,d4];clear h2 h5 h6 h9 b6 b9 b7 b3 b4 b5 d4 hP ν;have f:=Gs u hb;have c8:=Ze f qs.out;have a9:=Ze f qr.out;obtain⟨W6,c0,e9,q6,c1⟩:=Zaz (B:=gs) n5 A5 k5 c5 (Qa gs wx) (Qe _) c8
   have d3:Below w.heap.size w W6:=by
    rw[<- c0];exact((Gs I f).setCell (p:=⟨gs,0,none⟩) e0 _).setCell (p:=⟨gs,1,none⟩) e0 _
   have c6:=Zd (c1.1 _ _ _ _ _ ar);have Y:=c1.2.1 gr _ _ e2 a9;obtain⟨y0,y1,y2,y3⟩:=c8.two;replace q6:=Zd q6;replace Y:=Zd Y;replace d3:=Zd d3;clear ar c1 c8 a9 e9;refine Zy (i:=17) rfl Gi Gi (λK hK=>?_);go_simp;(try rw[c0]);refine hK.out _ _ ?_;clear hK K
   try simp only[Qc,Zg9,Zgn,Zg3]
   refine wpAnyL_fin ?_;clear c0 y0 y1 y2 y3 f hb u T hxs1 ci s0 s1;go_wp2_with fail
   go_roundw
   case rel=>exact⟨i+1,n5,A5,k5,c5,by omega,by go_num,c6.out.same y.out.symm,q6.out,Y.out,d3.out⟩
   case measure=>simp[intOf];omega
open Go.RowKit Go.Shelf
attribute [local go_sem] Zi
attribute [local go_sem] Oper.semAt_some
def rsAt(es:List RS)(k:Nat):RS:=es[k]?.getD ⟨none,0,0⟩
def SL(w:World)(A:Option Addr)(n c:Nat)(es:List RS):Prop:=
 es.length=n/\n<=c/\c<=maxLen/\(0<n->∃ g o,A=some ⟨g,o,none⟩/\∀ (k:Nat) (e:RS),es[k]?=some e->w.cell? ⟨g,o+k,none⟩=some (.slice e.A e.n e.c))
theorem SL.below{w w':World}{A:Option Addr}{n c:Nat}{es:List RS}(h:SL w A n c es)(hb:Below w.heap.size w w'):SL w' A n c es:=
 ⟨h.1,h.2.1,h.2.2.1,λhn=>by
  obtain⟨b,o,e,hc⟩:=h.2.2.2 hn;exact⟨b,o,e,λk x hx=>Zc hb (hc k x hx)⟩⟩
theorem SL.at_{w:World}{A:Option Addr}{n c:Nat}{es:List RS}(h:SL w A n c es){k:Nat}(hk:k<n):∃ b o e,A=some ⟨b,o,none⟩/\es[k]?=some e/\w.cell? ⟨b,o+k,none⟩=some (.slice e.A e.n e.c):=by
 obtain⟨h1,-,-,h4⟩:=h;obtain⟨b,o,e,hc⟩:=h4 Gk;have he:=Qh (l:=es) (i:=k) Gk;exact⟨b,o,es[k],e,he,hc k _ he⟩
theorem sl_kept{W W':World}{row:Option Nat}{A:Option Addr}{n c:Nat}{es:List RS}(h:SL W A n c es)(hg:W.grownBy W' row)(hrow:∀ r,row=some r->∃ o:Obj,W.heap[r]?=some o/\o.isCells=false):SL W' A n c es:=
 ⟨h.1,h.2.1,h.2.2.1,λhn=>by
  obtain⟨b,o,e,hc⟩:=h.2.2.2 hn;exact⟨b,o,e,λk x hx=>cell_kept (hc k x hx) hg hrow⟩⟩
def KpR(Bs:Nat)(A:Option Addr)(n c:Nat)(es:List RS)(W W':World):Prop:=
 (W.cell? ⟨Bs,0,none⟩=some (.slice A n c)->W'.cell? ⟨Bs,0,none⟩=some (.slice A n c))/\(SL W A n c es->SL W' A n c es)
theorem KpR.trans{Bs n c:Nat}{A:Option Addr}{es:List RS}{W1 W2 W3:World}(h:KpR Bs A n c es W1 W2)(k:KpR Bs A n c es W2 W3):KpR Bs A n c es W1 W3:=⟨λx=>k.1 (h.1 x),λx=>k.2 (h.2 x)⟩
theorem KpR.put{Bs n c:Nat}{A:Option Addr}{es:List RS}(W:World)(lp:Nat)(o o':Obj)(ho:W.heap[lp]?=some o)(hc:o.isCells=false):KpR Bs A n c es W (W.putObj lp o'):=
 ⟨λh=>cell_kept h (grownBy_putObj' W lp o') (λr e=>by cases e;exact⟨o,ho,hc⟩),λh=>sl_kept h (grownBy_putObj' W lp o') (λr e=>by cases e;exact⟨o,ho,hc⟩)⟩
theorem Zyu(A:Option Addr)(n c:Nat)(w:World) :
    Calls Tryz.prog 129 #[.slice A n c] w λe w'=>e=.returned (.func (.func 177) #[] #[.pointer (some ⟨w.heap.size,0,none⟩)])/\w.alloc (.cells #[.slice A n c] 149)=w':=by
 go_in
 go_wp2
 go_ret;exact⟨rfl,rfl⟩
def Z1k(d:Nat)(P:Program)(gf:Nat)(lb:Array Value)(encs:Nat->Array Value)(Kp:World->World->Prop)(N:Nat)(w:World):Prop:=
 ∀ (l:Nat) (J:Nat->World->Prop) (W:World),Below w.heap.size w W->AbidesFrom W.heap.size J ->
  (∀ k V,k<N->J k V->YieldAt Fence.wide (d-1) P l (encs k) V λe V'=>e=.returned (.bool true)/\J (k+1) V'/\Kp V V') ->
  J 0 W->CallsIn Fence.wide d P gf (#[.func (.yield l) #[] #[]]++lb) W λe V'=>(∃ v,e=.returned v)/\J N V'
def goesOn(Kp:World->World->Prop)(J:World->Prop)(W:World):Exit->Act->World->Prop
 | .normal,_,W'=>KeepsOthers W W'/\Kp W W'/\J W'
 | .ret,_,_=>False
 | .exit _,_,_=>False
 | .goto _,_,_=>False
 | .panic _,_,_=>False
 | .outgrown,_,_=>False
theorem Zn7{d:Nat}{P:Program}{g:Operand}{ps:Array Tmp}{assign body:Code}{Q:Exit->Act->World->Prop}{a:Act}{w:World}(h1:1<=d){gf:Nat}{lb:Array Value}
    (hg:a.eval g=.func (.func gf) #[] lb) (eg:∀ args w,(callFunc gf args).run P w=.ok (.enter gf args) w)
    {encs:Nat->Array Value} {Kp:World->World->Prop} {N:Nat} {w0:World} (hseq:Z1k (d-1) P gf lb encs Kp N w0)
    (hKt:∀ {A B C:World},Kp A B->Kp B C->Kp A C) (hKb:∀ (W:World) (l:Nat) (o o':Obj),w.heap.size<=l->W.heap[l]?=some o->o.isCells=false->o.isWalk=false->Kp W (W.putObj l o')) (hb0:Below w0.heap.size w0 w) (hps:∀ k,(encs k).size=ps.size)
    (I:Nat->World->Prop) (hI:OwnFrom w.heap.size I) (h0:I 0 w) (a₁:Nat->Act)
    (hassign:∀ (l k:Nat) (W:World) (K:Act->World->Prop),k<N->K (a₁ k) W ->
     assign.wpIn (Fence.wide.inRound l) (d-1-1) P (Exit.then K (λ_ _ _=>False)) { tmps:=(ps.zip (encs k)).foldl (λt (p,v)=>t.setIfInBounds p v) a.tmps,defers:=[] } W)
    (hbody:∀ (l k:Nat) (W:World),k<N->I k W->body.wpIn (Fence.wide.inRound l) (d-1-1) P (goesOn Kp (I (k+1)) W) (a₁ k) W)
    (hdone:∀ (D:Nat) (W:World),w.heap.size<=D->I N W->W.heap[D]?=some (.deferred (some []))->Q .normal { a with defers:={ target:=.collected D,args:=#[] } :: a.defers } W) :
    (Code.rangeFunc g ps assign body).wpIn Fence.wide d P Q a w:=by
 refine wpIn_rangeFunc λfn hfn=>?_;rw[show Fence.wide.round=none from rfl];obtain⟨B,hB⟩:=Gz w.heap.size;rw[hB]at hI hKb hdone;obtain⟨rec,f⟩:∃ rec:LoopState->Option Code->Loop,rec=λst pe=>{ state:=st,pending:=pe,fn,tmps:=a.tmps,params:=ps,assign,body,defers:=B }:=⟨_,rfl⟩;obtain⟨W1,y⟩:=Gz ((w.alloc (.deferred (some []))).alloc (.loop (rec .ready none)));have sz:W1.heap.size=B+1+1:=by rw[<- y,<- hB];simp
 have lp:W1.heap[B+1]?=some (.loop (rec .ready none)):=by
  have h:=World.alloc_heap_new (w.alloc (.deferred (some []))) (.loop (rec .ready none));rw[World.size_alloc,hB,y]at h;exact h
 have df:W1.heap[B]?=some (.deferred (some [])):=by
  rw[<- y,<- hB];exact(Below.heap_alloc _ _ _ Gh).trans (World.alloc_heap_new w _)
 have i1:I 0 W1:=by rw[<- y];exact hI.alloc _ (hI.alloc _ h0)
 have b1:Below w0.heap.size w0 W1:=by
  rw[<- y];exact hb0.trans (((Qa _ w).alloc (Qe _) _).trans ((Qa _ _).alloc Gh _) |>.mono hb0.size)
 obtain⟨J,hJ⟩:∃ J:Nat->World->Prop,J=λk W=>I k W/\W.heap[B+1]?=some (.loop (rec .ready none))/\W.heap[B]?=some (.deferred (some [])):=⟨_,rfl⟩
 have key:=hseq (B+1) J W1 b1 (λk X Y row hs hgr hr=>by
     rw[hJ]at hs ⊢;have U:∀ r,row=some r->∃ o:Obj,X.heap[r]?=some o/\o.isWalk=true:=λr e=>(hr r e).2;refine⟨hI k X Y row hs.1 hgr (λr e=>?_),(grownBy_keeps hgr U hs.2.1 rfl).trans hs.2.1,(grownBy_keeps hgr U hs.2.2 rfl).trans hs.2.2⟩;obtain⟨hl,o,ho,hw⟩:=hr r e;exact⟨by omega,o,ho,Obj.not_cells_of_walk hw⟩)
  (λk V hk hs=>by
   rw[hJ]at hs;obtain⟨hi,hl,hd⟩:=hs;have a1:B+1<V.heap.size:=(Array.getElem?_eq_some_iff.1 hl).1;have hy:=run_yield (P:=P) (args:=encs k) hl (by rw[f];exact hps k);rw[f]at hy;obtain⟨V2,T⟩:∃ X,V.putObj (B+1) (.loop { rec .ready none with state:=.busy })=X:=⟨_,rfl⟩;refine⟨fn,_,assign,body,hy,roundIn_of_wpIn hfn (hassign _ k V _ hk ⟨V2,by rw[<- T];exact run_beginRound hl (by rw[f]),?_⟩)⟩;have a2:V2.heap[B+1]?=some (.loop { rec .ready none with state:=.busy }):=by rw[<- T];exact World.putObj_heap_same a1
   have a0:V2.heap[B]?=some (.deferred (some [])):=by rw[<- T];exact(World.putObj_heap_other Gk).trans hd
   have a5:Kp V V2:=by rw[<- T];exact hKb _ _ _ _ Gk hl rfl rfl
   have a4:I k V2:=by rw[<- T];exact hI.putObj _ hi Gk hl rfl
   refine wpIn_mono (hbody _ k V2 hk a4) λe a3 V3 hq=>?_;cases e with
   | normal =>
    obtain⟨ko,kp,i3⟩:=hq;have O:=ko.same _ _ a2 rfl;have u:=run_endRound (P:=P) none O;rw[f]at u O;refine⟨_,_,u,rfl,?_,hKt (hKt a5 kp) (hKb _ _ _ _ Gk O rfl rfl)⟩;rw[hJ];refine⟨hI.putObj _ i3 Gk O rfl,?_,(World.putObj_heap_other Gk).trans (ko.same _ _ a0 rfl)⟩;rw[f];exact World.putObj_heap_same (Array.getElem?_eq_some_iff.1 O).1
   | ret=>exact hq.elim
   | exit id=>exact hq.elim
   | goto t=>exact hq.elim
   | panic ch=>exact hq.elim
   | outgrown=>exact hq.elim)
  (by rw[hJ];exact⟨i1,lp,df⟩)
 refine⟨B+1,[{ target:=.collected B,args:=#[] }],W1,{ target:=.fn (.func gf) lb,args:=#[.func (.yield (B+1)) #[] #[]] },W1,gf,#[.func (.yield (B+1)) #[] #[]]++lb,W1,?_,?_,λ_ _=>trivial,?_,λ_=>h1,?_⟩;rw[<- y,f,<- hB];exact run_enterLoop_outer _ _ _ _ _
 ·simp only[resolve,hg]
  simp[go_sem]
 ·simp[invoke,go_sem,eg]
 refine key.mono ?_;rintro e W2 ⟨⟨v,rfl⟩,hs⟩;rw[hJ]at hs;obtain⟨hi,hl,hd⟩:=hs;have u:=run_endLoop (P:=P) hl (by rw[f];simp);rw[f]at u;exact⟨none,_,u,hdone _ _ (Qe _) (hI.putObj _ hi Gk hl rfl) ((World.putObj_heap_other Gk).trans hd)⟩
def Znw(es:List RS)(n:Nat)(k:Nat):Array Value:=#[.int .i64 ((n-1-k:Nat):Int),RS.val (rsAt es (n-1-k))]
theorem Zy8(d:Nat)(hd:1<=d)(Bs n c:Nat)(A:Option Addr)(es:List RS)(w:World)(hc:w.cell? ⟨Bs,0,none⟩=some (.slice A n c))(hL0:SL w A n c es) :
    Z1k d Tryz.prog 177 #[.pointer (some ⟨Bs,0,none⟩)] (Znw es n) (KpR Bs A n c es) n w:=by
 intro lp J W hW _ hY h0;have T:W.cell? ⟨Bs,0,none⟩=some (.slice A n c):=(hW.cell (Zp hc)).trans hc;have hL:SL W A n c es:=hL0.below hW;clear hW hc hL0;have V:=hL.2.1;have I:=hL.2.2.1;unfold maxLen at I;refine callsIn_of_wp Tryz.func177 rfl trivial ?_ rfl;simp only[Tryz.ntmps177,List.size_toArray,List.length_cons,List.length_nil,Nat.reduceAdd,Nat.reduceSub,Array.replicate_succ,Array.replicate_zero,List.push_toArray,List.append_toArray,List.nil_append,List.cons_append]
 gi_wp2
 gi_loopw [3] (λi wr=>∃ k:Nat,k<=n/\i=.int .i64 ((n:Int)-1-k)/\J k wr/\Hid (wr.cell? ⟨Bs,0,none⟩=some (.slice A n c))/\SL wr A n c es)
  (λi _=>(intOf i+1).toNat)
 case atStart=>exact⟨0,Qj _,by go_num,h0,T,hL⟩
 case round =>
  obtain⟨k,hk,rfl,h,f,u⟩:=hrel;have U:=f.out;by_cases hlt:k<n
  ·obtain⟨b,o,e,rfl,he,Y⟩:=u.at_ (k:=n-1-k) Gk
   obtain⟨fn,tmps,assign,body,hy,hR⟩:=hY k wr hlt h;dsimp only[Znw,RS.val,rsAt]at hy;rw[he,Option.getD_some]at hy;rw[show ((n-1-k:Nat):Int)=(n:Int)-1-k by omega]at hy
   gi_wp2
   refine hR.mono ?_;rintro e W3 ⟨rfl,O,y⟩;have C:=Zd (y.1 f.out)
   gi_wp2
   go_roundw
   case rel=>exact⟨k+1,by omega,by go_num,O,C,y.2 u⟩
   case measure=>simp[intOf];omega
  obtain rfl:k=n:=Gk
  gi_wp2
  go_end0
  exact⟨⟨_,rfl⟩,h⟩
theorem BdR.mono{C D C' D' m:Nat}{R:List (List Rat)}(h:BdR C D m R)(hC:C<=C')(hD:D<=D'):BdR C' D' m R:=⟨h.1,λi j=>⟨Qf (h.2 i j).1 hC,Qf (h.2 i j).2 hD⟩⟩
theorem Zna{C D C' D' m:Nat}(hC:C<=C')(hD:D<=D'):∀ (f c r:Nat) (R:List (List Rat)),okR C D m f c r R->okR C' D' m f c r R
 | 0,_,_,_,h=>BdR.mono h hC hD
 | f+1,c,r,R,h=>⟨h.1.mono hC hD,h.2.imp id (λ⟨h1,h2⟩=>⟨λe=>Zna hC hD f _ _ _ (h1 e),λe=>Zna hC hD f _ _ _ (h2 e)⟩)⟩
def n0R(rs:List RX):Nat:=(rs[0]?.map RX.n).getD 0
def Zhd(k:Nat)(r:RX):Bool:=decide (r.n=k) && Zex r.es
def Zhz(rs:List RX):Bool:=decide (12<rs.length) || rs.any RX.long
def Zg1(rs:List RX):Int:=if Zhz rs=true then 4 else if n0R rs=0 then 8 else if rs.all (Zhd (n0R rs))=true then 0 else 8
def sqE(rs:List RX):Int:=if Zg1 rs=0 then (if rs.length=n0R rs then 0 else 8)else Zg1 rs
theorem Zph{rs:List RX}(h:Zhz rs=true):Zg1 rs=4:=by unfold Zg1;rw[Gx h]
theorem Zpm{rs:List RX}(h:Zhz rs=false)(h0:n0R rs=0):Zg1 rs=8:=by unfold Zg1;rw[Gw (by simp[h]),Gx h0]
theorem Z0n{rs:List RX}(h:Zhz rs=false)(h0:n0R rs≠0){r:RX}(hr:r ∈ rs)(hb:Zhd (n0R rs) r=false):Zg1 rs=8:=by
 unfold Zg1;exact IV
theorem matE_ok{rs:List RX}(h:Zhz rs=false)(h0:n0R rs≠0)(ha:rs.all (Zhd (n0R rs))=true):Zg1 rs=0:=by
 unfold Zg1;rw[Gw (by simp[h]),Gw h0,Gx ha]
theorem Zzn{rs:List RX}{r:RX}(h:rs[0]?=some r):n0R rs=r.n:=by unfold n0R;rw[h];rfl
theorem Fj{G:Prop}(h:G:=by
 clear h;go_in;go_wp2_with fail;refine(hC.out _ (by first|exact Below.refl _ _|exact Zh (Below.refl _ _) _)).mono ?_;rintro e w1 ⟨rfl,ab⟩;go_wp2_with fail;go_ret;exact⟨rfl,by first|exact ab|exact(Zh (Below.refl _ _) _).trans ab⟩):G:=h
theorem Fl{G:Prop}(h:G:=by
 go_wp2_with fail;go_ret;exact⟨rfl,by first|exact Below.refl _ _|exact Zh (Below.refl _ _) _⟩):G:=h
theorem Zvt(A:Option Addr)(n c:Nat)(rs:List RX)(w:World)(h:MXL w A n c rs)(E:Int)(hE:Zg1 rs=E) :
    Calls Tryz.prog 126 #[.slice A n c] w λe w'=>e=.returned (.int .i64 E)/\Below w.heap.size w w':=by
 have hl:=h.1;have a6:=h.2.1;have Y:=h.2.2.1;unfold maxLen at Y;replace hE:=Zd hE;by_cases h12:12<n
 ·have t1:decide ((12:Int)<(n:Int))=true:=Gv Gk
  obtain rfl:E=4:=by rw[<- hE.out];exact Zph (by unfold Zhz;rw[hl,Gv h12];rfl)
  go_in;exact Fl
 have t1:decide ((12:Int)<(n:Int))=false:=Gu Gk;obtain⟨x,hx⟩:=Gz (rs.any RX.long);have C:Zhz rs=x:=by unfold Zhz;rw[hl,Gu h12,hx];rfl
 have hC:=Zd (λW1 (hb:Below w.heap.size w W1)=>Zud A n c rs W1 (h.below hb) x hx);clear hx;replace C:=Zd C;cases x
 case true =>
  obtain rfl:E=4:=by rw[<- hE.out];exact Zph C.out
  exact Fj
 by_cases hn0:n=0
 ·subst hn0
  obtain rfl:E=8:=by
   rw[<- hE.out];have:rs=[]:=Qd hl;exact Zpm C.out (by rw[this];rfl)
  exact Fj
 have t2:((n:Int) == 0)=false:=by simp;omega
 have a3:decide (n=0)=false:=by simpa using hn0
 obtain⟨g,o,r0,rfl,T,c0,V⟩:=h.at_ (k:=0) Gk;have U:=V.nlen;unfold maxLen at U;have f:=Zzn T;clear T V;rw[Nat.add_zero]at c0;have a5:=Zp c0;by_cases hz:r0.n=0
 ·obtain rfl:E=8:=by rw[<- hE.out];exact Zpm C.out (by rw[f,hz])
  have t3:((r0.n:Int) == 0)=true:=by simp[hz]
  have a0:decide (r0.n=0)=true:=by simpa using hz
  replace h:=Zd h;replace f:=Zd f;replace hz:=Zd hz;go_in;go_wp2_with fail;refine(hC.out _ (by first|exact Qa _ _|exact Zh (Qa _ _) _)).mono ?_;rintro e w1 ⟨rfl,ab⟩;have y:Below w.heap.size w w1:=by first|exact ab|exact(Zh (Qa _ _) _).trans ab
  have k0:=Zc y c0;clear c0;go_wp2_with fail;go_ret;exact⟨rfl,y⟩
 have t3:((r0.n:Int) == 0)=false:=by simpa using hz
 have a0:decide (r0.n=0)=false:=by simpa using hz
 replace h:=Zd h;replace hl:=Zd hl;replace f:=Zd f;replace hz:=Zd hz;go_in;go_wp2_with fail;refine(hC.out _ (by first|exact Qa _ _|exact Zh (Qa _ _) _)).mono ?_;rintro e w1 ⟨rfl,ab⟩;have y:Below w.heap.size w w1:=by first|exact ab|exact(Zh (Qa _ _) _).trans ab
 have k0:=Zc y c0;clear ab hC;go_wp2_with fail
 go_loopw [24] (λiv wr=>∃ i:Nat,i<=n/\iv=.int .i64 i/\Hid (∀ j e,j<i->rs[j]?=some e->Zhd (n0R rs) e=true)/\Below w.heap.size w wr) (λiv _=>n-(intOf iv).toNat)
 case atStart=>exact⟨0,Qj _,rfl,Zd (λj e hj=>by omega),(by first|exact y|exact Zh y _)⟩
 case round =>
  clear k0 y;obtain⟨i,a4,rfl,aw,u⟩:=hrel;have k0:=Zc u c0;clear c0;by_cases hin:i<n
  case neg =>
   obtain rfl:n=i:=Gk;have a1:decide ((n:Int)<(n:Int))=false:=Gh
   obtain rfl:E=0:=by
    rw[<- hE.out];refine matE_ok C.out (by rw[f.out];exact hz.out) ?_;exact EZ
   go_wp2_with fail;go_ret;exact⟨rfl,u⟩
  have a1:decide ((i:Int)<(n:Int))=true:=Gv Gk;obtain⟨g',o',r,hA,he,c1,hL⟩:=(h.out.below u).at_ hin;cases hA;have a2:=hL.nlen;unfold maxLen at a2;have bad:Zhd (n0R rs) r=false->E=8:=λhf=>by rw[<- hE.out];exact Z0n C.out (by rw[f.out];exact hz.out) (List.mem_of_getElem? he) hf
  have good:Zhd (n0R rs) r=true->Hid (∀ j e,j<i+1->rs[j]?=some e->Zhd (n0R rs) e=true):=λhf=>Zd (λj e' hj he'=>by
   rcases Nat.lt_or_ge j i with h'|h';exact aw.out j e' h' he';obtain rfl:j=i:=Gk;rw[he]at he';cases he';exact hf)
  replace bad:=Zd bad;replace good:=Zd good;replace he:=Zd he;by_cases hq:r.n=r0.n
  case neg =>
   have t4:((r.n:Int) == (r0.n:Int))=false:=beq_eq_false_iff_ne.2 Gk;have t5:((r.n:Int) != (r0.n:Int))=true:=by rw[bne,t4];rfl
   have O:decide (r.n=r0.n)=false:=by simpa using hq
   obtain rfl:E=8:=bad.out (by unfold Zhd;rw[f.out,O];rfl);clear hL;go_wp2_with fail;go_ret;exact⟨rfl,by first|exact u|exact Zh u _⟩
  have t4:((r.n:Int) == (r0.n:Int))=true:=beq_iff_eq.2 Gk;have t5:((r.n:Int) != (r0.n:Int))=false:=by rw[bne,t4];rfl
  have O:decide (r.n=r0.n)=true:=by simpa using hq
  obtain⟨x,hx⟩:=Gz (Zex r.es);have hC:=Zd (λW1 (hb:Below wr.heap.size wr W1)=>Zrq r.A r.n r.c r.es W1 (hL.below hb) x hx);replace hx:=Zd hx;replace hq:=Zd hq;clear hL;cases x
  ·obtain rfl:E=8:=bad.out (by unfold Zhd;rw[hx.out];simp)
   go_wp2_with fail;refine(hC.out _ (by first|exact Qa _ _|exact Zh (Qa _ _) _)).mono ?_;rintro e' w2 ⟨rfl,I⟩;go_wp2_with fail;go_ret;exact⟨rfl,(by first|exact Gs u I|exact(Zh u _).trans (I.mono u.size))⟩
  have J:=good.out (by unfold Zhd;rw[f.out,O,hx.out];rfl);go_wp2_with fail;refine(hC.out _ (by first|exact Qa _ _|exact Zh (Qa _ _) _)).mono ?_;rintro e' w2 ⟨rfl,I⟩;go_wp2_with fail
  go_roundw
  case rel=>exact⟨i+1,by omega,by go_num,J,(by first|exact Gs u I|exact(Zh u _).trans (I.mono u.size))⟩
  case measure=>simp[intOf];omega
theorem Zsp(A:Option Addr)(n c:Nat)(rs:List RX)(w:World)(h:MXL w A n c rs)(E:Int)(hE:sqE rs=E) :
    Calls Tryz.prog 80 #[.slice A n c] w λe w'=>e=.returned (.int .i64 E)/\Below w.heap.size w w':=by
 have hl:=h.1;have U:=h.2.1;have I:=h.2.2.1;unfold maxLen at I;obtain⟨F,hF⟩:=Gz (Zg1 rs);go_in;go_wp2_with fail;refine(Zvt A n c rs w h F hF).mono ?_;rintro e w1 ⟨rfl,f⟩;unfold sqE at hE;rw[hF]at hE;by_cases hF0:F=0
 case neg =>
  have t1:(F == 0)=false:=by simpa using hF0
  have T:decide (F=0)=false:=by simpa using hF0
  rw[Gw hF0]at hE;subst hE;replace hF:=Zd hF;go_wp2_with fail;go_ret;exact⟨rfl,f⟩
 subst hF0;rw[Gx rfl]at hE
 have O:0<n:=by
  rcases Nat.eq_zero_or_pos n with h0|h0
  ·exfalso
   have:rs=[]:=Qd Gk;subst this;exact absurd hF Gj
  exact h0
 obtain⟨g,o,r0,rfl,u,c0,C⟩:=h.at_ (k:=0) O;have y:=C.nlen;unfold maxLen at y;rw[Zzn u,hl]at hE;rw[Nat.add_zero]at c0;replace c0:=Zc f c0;replace u:=Zd u;replace hF:=Zd hF;clear C h;by_cases hq:n=r0.n
 ·have t2:((n:Int) == (r0.n:Int))=true:=beq_iff_eq.2 Gk
  have t5:((n:Int) != (r0.n:Int))=false:=by rw[bne,t2];rfl
  have J:decide (n=r0.n)=true:=by simpa using hq
  rw[Gx hq]at hE;subst hE;replace hq:=Zd hq;go_wp2_with fail;go_ret;exact⟨rfl,f⟩
 have t2:((n:Int) == (r0.n:Int))=false:=beq_eq_false_iff_ne.2 Gk;have t5:((n:Int) != (r0.n:Int))=true:=by rw[bne,t2];rfl
 have J:decide (n=r0.n)=false:=by simpa using hq
 rw[Gw hq]at hE;subst hE;replace hq:=Zd hq;go_wp2_with fail;go_ret;exact⟨rfl,f⟩
