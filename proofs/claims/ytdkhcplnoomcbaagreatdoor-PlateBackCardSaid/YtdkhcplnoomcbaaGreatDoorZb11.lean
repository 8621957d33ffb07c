/- Package frac: Round; the reference's Round. Predicates for -/
import Derived.Deep.LoopGhost
import Derived.RangeFuncNested
import Derived.Lib.SlBuf
import Derived.Test.YtdkhcplnoomcbaaGreatDoorZb10
set_option maxRecDepth 100000
set_option maxHeartbeats 16000000
set_option linter.unusedSimpArgs false
set_option linter.unusedVariables false
namespace Go.Proofs.YtdkhcplnoomcbaaGreatDoor
open Go.RowKit
open Below renaming refl→Qa
open List renaming getElem?_eq_getElem→Qb,getElem?_map→Qd,getElem?_eq_none→Qe,ext_getElem?→Qh,getElem?_set→Qi,mem_of_getElem?→Qj,getElem?_range→Ql,replicate→Qq,getElem_of_mem→Qu,map_cons→Qw,map_set→Qz,map_nil→QA,mem_append_right→QC,set_append_left→QF,getElem_mem→QK,all_eq_true→QL,not_mem_nil→QM,range→QN
open Act renaming put→Qc
open Nat renaming le_refl→Qf,lt_of_le_of_lt→Qg,lt_of_lt_of_le→Qn,lt_or_ge→Qt,le_trans→Qy,mul_le_mul→QD,zero_le→QI
open Or renaming inl→Qk
open World renaming cell?_setCell_other→Qm
open Rat renaming zero_add→Qo,num_divInt_den→QG
open Int renaming natAbs_mul→Qp,toNat_natCast→QH
open Bool renaming true_and→Qr,not_false→QE,and_eq_true→QJ
open Option renaming getD_some→Qs,map_some→QB
open _root_.Array renaming getElem?_setIfInBounds→Qv
open Ne renaming symm→Qx
attribute [local go_sem] Zf
def frV(q:Rat)(v:Value)(w:World):Prop:=∃ na A n c nb B m d,v=.agg #[.bool na,.slice A n c,.bool nb,.slice B m d]/\Fr w na A n c nb B m d q
def newV(B0:Nat)(t:TypeId)(cs:Array Value)(v:Value)(w:World):Prop:=∃ g,v=.pointer (some ⟨g,0,none⟩)/\B0<=g/\Blk w g t cs
def Zb2:List (Nat × (Value->World->Prop))->Nat->Value->World->Prop
 | [],_=>λ_ _=>True
 | (j,P)::l,i=>if i=j then P else Zb2 l i
def Ze3(P:Value->World->Prop):Prop:=∀ v w w',Below w.heap.size w w'->P v w->P v w'
section
variable{q:Rat}{z:Int}{x:Value}{B0:Nat}{t:TypeId}{cs:Array Value}
theorem Zdl:Ze3 (frV q):=λ_ _ _ hb ⟨na,A,n,c,nb,B,m,d,e,h⟩=>⟨na,A,n,c,nb,B,m,d,e,h.below hb⟩
theorem Zhv:Ze3 (newV B0 t cs):=λ_ _ _ hb ⟨g,e,k,h⟩=>⟨g,e,k,Zc hb h⟩
theorem Zh8{l:List (Nat × (Value->World->Prop))}(h:∀ p ∈ l,Ze3 p.2)(i:Nat):Ze3 (Zb2 l i):=by
 induction l with
 | nil=>exact λ_ _ _ _ _=>trivial
 | cons p l ih =>
  unfold Zb2;by_cases e:i=p.1;rw[Gx e];exact h p List.mem_cons_self;rw[Gw e];exact ih λr hr=>h r (List.mem_cons_of_mem _ hr)
theorem Zjg:∀ p ∈ ([]:List (Nat × (Value->World->Prop))),Ze3 p.2:=λ_ h=>by cases h
theorem Za1{p:Nat × (Value->World->Prop)}{l:List (Nat × (Value->World->Prop))}(h:Ze3 p.2)(k:∀ p ∈ l,Ze3 p.2):∀ r ∈ p::l,Ze3 r.2:=λr hr=>by
 rcases List.mem_cons.1 hr with rfl|h2;exact h;exact k r h2
end
def fl3V(l:List Rat)(v:Value)(w:World):Prop:=∃ A c,v=.slice A 3 c/\FL w A 3 c l
theorem Zh4{l:List Rat}:Ze3 (fl3V l):=λ_ _ _ hb ⟨A,c,e,h⟩=>⟨A,c,e,h.below hb⟩
def plV(l r:List Rat)(v:Value)(w:World):Prop:=∃ A c B d,v=.agg #[.int .i64 3,.slice A 3 c,.slice B 3 d]/\FL w A 3 c l/\FL w B 3 d r
theorem Zm6{l r:List Rat}:Ze3 (plV l r):=λ_ _ _ hb ⟨A,c,B,d,e,h,k⟩=>⟨A,c,B,d,e,h.below hb,k.below hb⟩
theorem FW{G:Prop}(h:G:=by
 refine⟨g1,o1,e1,λk e he=>?_⟩;obtain⟨c1,c2,c3,c4⟩:=hk k e he;exact⟨(hc _ hg).trans c1,(hc _ hg).trans c2,(hc _ hg).trans c3,(hc _ hg).trans c4⟩):G:=h
theorem FL.off{w W:World}{g:Nat}{t:TypeId}{x0:Int}{A0 B0:Option Addr}{n0 c0 m0 d0:Nat}{A:Option Addr}{n c:Nat}{qs:List Rat}(h:FL w A n c qs)(hb:Blk w g t #[.int .i64 x0,.slice A0 n0 c0,.slice B0 m0 d0])
    (hw:∀ na A n c z,Wd w na A n c z->Wd W na A n c z) (hc:∀ p:Addr,p.block≠g->W.cell? p=w.cell? p):FL W A n c qs:=by
 obtain⟨es,h1,h2,h3,h4,h5,h6⟩:=h;refine⟨es,h1,h2,h3,λe he=>Fr.keep (h4 e he) hw,h5,λhn=>?_⟩;obtain⟨g1,o1,e1,hk⟩:=h6 hn
 have hg:g1≠g:=λhg=>by
  subst hg;obtain⟨e,he⟩:∃ e,es[0]?=some e:=⟨_,Qb Gk⟩;obtain⟨k1,-,-,-⟩:=hk 0 e he;have k2:(#[.int .i64 x0,.slice A0 n0 c0,.slice B0 m0 d0]:Array Value)[o1+0*4]?=some (.bool e.na):=by rw[<- k1];exact(hb.cell _).symm
  rcases o1 with _|_|_|o1 <;> simp at k2
 exact FW
theorem NoLimb.box3(x:Int)(A:Option Addr)(n c:Nat)(A':Option Addr)(n' c':Nat):NoLimb #[.int .i64 x,.slice A n c,.slice A' n' c']:=λi x=>by
 rcases i with _|_|_|i <;> simp
theorem Zbe{t:TypeId}{B:Nat}{w0 w:World}{g:Nat}{x0:Int}{A0 B0:Option Addr}{n0 c0 m0 d0:Nat}(x:Int)(A:Option Addr)(n c:Nat)(B':Option Addr)(m d:Nat)(hB:Below B w0 w)(hs:B<=g)(hb:Blk w g t #[.int .i64 x0,.slice A0 n0 c0,.slice B0 m0 d0]) :
    ∃ W,((w.setCell ⟨g,0,none⟩ (.int .i64 x)).setCell ⟨g,1,none⟩ (.slice A n c)).setCell ⟨g,2,none⟩ (.slice B' m d)=W/\Below B w0 W/\Blk W g t #[.int .i64 x,.slice A n c,.slice B' m d]/\∀ A n c qs,FL w A n c qs->FL W A n c qs:=by
 have o:Blk (w.setCell ⟨g,0,none⟩ (.int .i64 x)) g t #[.int .i64 x,.slice A0 n0 c0,.slice B0 m0 d0]:=hb.set_ 0 (.int .i64 x);have h:Blk ((w.setCell ⟨g,0,none⟩ (.int .i64 x)).setCell ⟨g,1,none⟩ (.slice A n c)) g t #[.int .i64 x,.slice A n c,.slice B0 m0 d0]:=o.set_ 1 (.slice A n c);have u:Blk (((w.setCell ⟨g,0,none⟩ (.int .i64 x)).setCell ⟨g,1,none⟩ (.slice A n c)).setCell ⟨g,2,none⟩ (.slice B' m d)) g t #[.int .i64 x,.slice A n c,.slice B' m d]:=h.set_ 2 (.slice B' m d);refine⟨_,rfl,((hB.setCell (p:=⟨g,0,none⟩) hs _).setCell (p:=⟨g,1,none⟩) hs _).setCell (p:=⟨g,2,none⟩) hs _,u,λA1 n1 c1 qs hL=>hL.off hb (λna A' n' c' z hW=>⟨hW.1,hW.2.1,?_⟩) λp hp=>?_⟩;exact((hW.2.2.set_box hb (NoLimb.box3 _ _ _ _ _ _ _) _ _).set_box o (NoLimb.box3 _ _ _ _ _ _ _) _ _).set_box h (NoLimb.box3 _ _ _ _ _ _ _) _ _;have f:∀ i,(⟨g,i,none⟩:Addr)≠p:=λi e=>hp (by rw[<- e]);rw[Qm _ _ _ _ (f 2),Qm _ _ _ _ (f 1),Qm _ _ _ _ (f 0)]
theorem SmN.quo{i j i' j':Nat}{a b:Rat}(ha:SmN i j a)(hb:SmN i' j' b)(h0:b≠0):SmN (i+j') (j+i') (a/b):=by
 have hn:b.num≠0:=λh=>h0 (Rat.num_eq_zero.1 h);have e:a/b=Rat.divInt (a.num*b.den) (a.den*b.num):=by rw[Rat.div_def,<- Rat.divInt_mul_divInt,QG,<- Rat.inv_divInt,QG]
 have k1:(a.num*b.den:Int).natAbs<pw (i+j'):=by rw[Qp];exact Zb6 ha.1 hb.dn
 have k2:(a.den*b.num:Int).natAbs<pw (j+i'):=by rw[Qp];exact Zb6 ha.dn hb.1
 have k3:(a.den*b.num:Int)≠0:=Int.mul_ne_zero (by have:=a.den_pos;omega) hn;rw[e];exact⟨Qg (Zry _ _ k3) k1,Qg (Zqp _ _ k3) k2⟩
theorem Zbi{r:Rat}(h:Zac r=true):SmN 64 64 r:=by
 unfold Zac at h;simp only[QJ,decide_eq_true_eq]at h;exact⟨(Zo _ _).1 h.1,(Zo _ _).1 h.2⟩
theorem Zam{l:List Rat}(h:l.all Zac=true)(k:Nat):SmN 64 64 (l[k]?.getD 0):=by
 rcases Qt k l.length with hk|hk
 ·rw[Qb hk,Qs]
  exact Zbi (List.all_eq_true.1 h _ (QK hk))
 rw[Qe hk,Option.getD_none];exact⟨Zdt _,Qn Zdh (Zbm Gi)⟩
theorem SmN.minus{r:Rat}(h:SmN 64 64 r):SmN 66 65 (0-r):=
 (SmN.sub (SmN.int (i:=1) (n:=0) (Zdt 1)) h).mono Gi Gi
def Zb3(qs rs:List Rat):Rat:=qs[1]?.getD 0*rs[2]?.getD 0-qs[2]?.getD 0*rs[1]?.getD 0
def Zm4(qs rs:List Rat)(a b:Rat):List Rat:=[0-(a/Zb3 qs rs*qs[0]?.getD 0+b/Zb3 qs rs*rs[0]?.getD 0),a/Zb3 qs rs,b/Zb3 qs rs]
def Zby(qs rs:List Rat):List Rat:=Zm4 qs rs (rs[2]?.getD 0) (0-qs[2]?.getD 0)
def Za3(qs rs:List Rat):List Rat:=Zm4 qs rs (0-rs[1]?.getD 0) (qs[1]?.getD 0)
theorem Zo4{qs rs:List Rat}(hq:qs.all Zac=true)(hr:rs.all Zac=true):SmN 257 256 (Zb3 qs rs):=
 (((Zam hq 1).mul (Zam hr 2)).sub ((Zam hq 2).mul (Zam hr 1))).mono Gi Gi
theorem Zsc{qs rs:List Rat}{a b:Rat}(hq:qs.all Zac=true)(hr:rs.all Zac=true)(h0:Zb3 qs rs≠0)(ha:SmN 66 65 a)(hb:SmN 66 65 b) :
    Sm a/\Sm b/\Sm (Zb3 qs rs)/\Sm (a/Zb3 qs rs)/\Sm (b/Zb3 qs rs)/\Sm (qs[0]?.getD 0)/\Sm (rs[0]?.getD 0)/\Sm (a/Zb3 qs rs*qs[0]?.getD 0)/\Sm (b/Zb3 qs rs*rs[0]?.getD 0)/\Sm (a/Zb3 qs rs*qs[0]?.getD 0+b/Zb3 qs rs*rs[0]?.getD 0):=by
 have hd:=Zo4 hq hr;have h1:=ha.quo hd h0;have h2:=hb.quo hd h0;have h3:=h1.mul (Zam hq 0);have h4:=h2.mul (Zam hr 0);exact⟨ha.sm Gi Gi,hb.sm Gi Gi,hd.sm Gi Gi,h1.sm Gi Gi,h2.sm Gi Gi,(Zam hq 0).sm Gi Gi,(Zam hr 0).sm Gi Gi,h3.sm Gi Gi,h4.sm Gi Gi,(h3.add h4).sm Gi Gi⟩
theorem Znh(X E:Option Addr)(c d:Nat)(qs rs:List Rat)(w:World)(hq:FL w X 3 c qs)(hr:FL w E 3 d rs) :
    Calls Tryz.prog 27 #[.agg #[.int .i64 3,.slice X 3 c,.slice E 3 d]] w λe w'=>e=.returned (.int .i64 (if (qs++rs).all Zac=true then 0 else 8))/\Below w.heap.size w w':=
 Zg6 3 X E c d qs rs w (Qk rfl) hq hr
section
variable{P:Program}{ops:Array Oper}{Q:Exit->Act->World->Prop}{md:Region.Mode}{L:List Nat}{S:World->Prop}
def Zrm(md:Region.Mode)(ops:Array Oper)(L:List Nat)(i:Nat)(M:List Nat):Bool:=(M++L).all λk=>k != i && (match ops[k]? with|some o=>o.after.any λe=>Region.binds md e && (e.on == i || M.contains e.on)|none=>false)
theorem Zl9{i:Nat}{M:List Nat}{oi:Oper}{v:Value}(hi:ops[i]?=some oi)(hsel:∀ (j:Nat) (o:Oper) cs b,ops[j]?=some o->o.op ≠ .select cs b)
    (hQ:∀ c a w,Q (.panic c) (a.put oi.dst v) w->Q (.panic c) a w) (hL:Zrm md ops L i M=true) :
    ∀ (fuel:Nat) (listed:Array Bool) (a:Act) (w:World),
     (∀ j oj,ops[j]?=some oj->j≠i->listed.getD j true=false->(∀ e ∈ oj.after,Region.binds md e=true->e.on≠i)->oi.apart ops oj=true) ->
     (∀ m ∈ M,listed.getD m true=false)->i ∈ Region.ready md ops listed->YieldsIf P ops S oi v a->Zb4 L listed=true->S w ->
     Zu P md ops Q L S fuel (listed.setIfInBounds i true) (a.put oi.dst v) w->Zu P md ops Q L S (fuel+1) listed a w:=by
 unfold Zrm at hL;rw[QL]at hL
 have J:i ∉ L:=λh=>by
  have:=hL i (QC _ h);simp at this
 intro fuel
 induction fuel with
 | zero =>
  intro listed a w _ hM hr hy hn hS H;exact EH
 | succ fuel ih =>
  intro listed a w aE hM hr hy hn hS H;refine⟨λh=>(by rw[h]at hr;cases hr),λj hj=>?_⟩;by_cases aC:j=i;subst aC;exact hy.wpOp hi hS ⟨λ_=>hS,H⟩;have h1:=H.2 j (ready_mono hj aC);obtain⟨aS,oj,u,hall⟩:=mem_ready.1 hj
  have C:∀ e ∈ oj.after,Region.binds md e=true->e.on≠i:=λe he hb heq=>by
   exact Ed
  have E:∀ e ∈ oj.after,Region.binds md e=true->e.on ∉ M:=λe he hb hM2=>by
   have h5:=hall e he hb;have h6:=hM _ hM2;rcases Qt e.on listed.size with h'|h';simp[h']at h6 h5;rw[h6]at h5;cases h5;simp[Array.getElem?_eq_none h']at h5
  have O:j ∉ M++L:=λhjm=>by
   have h2:=hL j hjm;rw[u]at h2;simp only[QJ,Array.any_eq_true',Bool.or_eq_true]at h2;obtain⟨_,e,he,h3,h4⟩:=h2;rcases h4 with h4|h4;exact C e he h3 (by simpa using h4);exact E e he h3 (by simpa using h4)
  have I:j ∉ L:=λh=>O (QC _ h);have Y:j ∉ M:=λh=>O (List.mem_append_left _ h);have h2:=wpOp_putIf u (aE j oj u aC aS C) (λcs b=>hsel i oi cs b hi) (λcs b=>hsel j oj cs b u) hQ hy h1
  have f:∀ k ok,ops[k]?=some ok->k≠i->(listed.setIfInBounds j true).getD k true=false ->
      (∀ e ∈ ok.after,Region.binds md e=true->e.on≠i)->oi.apart ops ok=true:=λk ok hk hki hun eO=>by
   exact EF
  have a0:Zb4 L (listed.setIfInBounds j true)=true:=by rw[Zav I];exact hn
  refine wpOp_mono (λa' w' h3=>⟨λ_=>h3.2.1 (by rw[Zav I,Zav J];exact hn),ih (listed.setIfInBounds j true) a' w' f (λm hm=>by have U:j≠m:=(λe=>by subst e;exact Y hm);rw[Go.getD_set_ne true U];exact hM m hm) (ready_mono hr (Qx aC)) h3.1 a0 (h3.2.1 (by rw[Zav I,Zav J];exact hn)) ?_⟩) h2;exact FH
theorem ED{G:Prop}(h:G:=by
 simp[Instr.index,run_underlying h,asIntOf,go_sem]):G:=h
theorem Zbr{i:Nat}(M:List Nat){oi:Oper}{v:Value}{fuel:Nat}{listed:Array Bool}{a:Act}{w:World}(hi:ops[i]?=some oi)
    (hs:Region.noSelect ops=true) (hf:Region.free md ops listed i=true) (hM:M.all (λm=>listed.getD m true == false)=true) (hr:(Region.ready md ops listed).contains i=true) (hL:Zrm md ops L i M=true) (hn:Zb4 L listed=true)
    (hy:YieldsIf P ops S oi v a) (hS:S w)
    (h:Zu P md ops (OnlyNormal Q) L S fuel (listed.setIfInBounds i true) (a.put oi.dst v) w):Zu P md ops (OnlyNormal Q) L S (fuel+1) listed a w:=
 Zl9 hi (Region.noSelect_spec hs) (λ_ _ _ h=>(h:False).elim) hL fuel listed a w (Region.free_spec hi hf) (λm hm=>by have:=List.all_eq_true.1 hM m hm;simpa using this) (by simpa using hr) hy hn hS h
end
@[local go_sem] theorem idx_two0 (a b:Int) (w:World):(Instr.index 109 (.agg #[.int .i64 a,.int .i64 b]) (.int .i64 0)).run Tryz.prog w=.ok (.int .i64 a) w:=by
 have h:Tryz.prog.underlying 109=some (.array 2 3):=Gj;exact ED
@[local go_sem] theorem idx_two1 (a b:Int) (w:World):(Instr.index 109 (.agg #[.int .i64 a,.int .i64 b]) (.int .i64 1)).run Tryz.prog w=.ok (.int .i64 b) w:=by
 have h:Tryz.prog.underlying 109=some (.array 2 3):=Gj;exact ED
def Z6(i k:Nat):Nat:=([0,0,1,0,0,1,2,0,1,1,0,2,3,0,2,1,1,2,0,3][i*2+k]?).getD 0
theorem Zka{i k:Nat}(hi:i<10)(hk:k<2):Z6 i k<=3:=by
 have h:∀ i,i<10->∀ k,k<2->Z6 i k<=3:=Gi;exact h i hi k hk
def PowG(w:World):Prop:=∀ i k,i<10->k<2->w.cell? ⟨0,i*2+k,none⟩=some (.int .i64 (Z6 i k))
theorem PowG.below{w w':World}(h:PowG w)(hb:Below w.heap.size w w'):PowG w':=λi k hi hk=>Za hb (h i k hi hk)
def mulN(t x:Rat):Nat->Rat
 | 0=>t
 | n+1=>mulN t x n*x
def ptQ(x y:Rat)(i:Nat):Nat->Rat
 | 0=>1
 | 1=>mulN 1 x (Z6 i 0)
 | _=>mulN (mulN 1 x (Z6 i 0)) y (Z6 i 1)
def tmQ(x y:Rat)(i:Nat):Rat:=mulN (mulN 1 x (Z6 i 0)) y (Z6 i 1)
def Zdp(qs:List Rat)(x y:Rat):Nat->Rat
 | 0=>0
 | i+1=>Zdp qs x y i+qs[i]?.getD 0*tmQ x y i
structure Zpv (T:Nat) (qs:List Rat) (x y:Rat):Prop where
 fac:∀ i,i<T->Sm (qs[i]?.getD 0)
 pro:∀ i,i<T->Sm (qs[i]?.getD 0*tmQ x y i)
 sum:∀ i,i<=T->Sm (Zdp qs x y i)
structure FitsT (T:Nat) (x y:Rat):Prop where
 px:Sm x
 py:Sm y
 one:∀ i a,i<T->a<=Z6 i 0->Sm (mulN 1 x a)
 two:∀ i a,i<T->a<=Z6 i 1->Sm (mulN (mulN 1 x (Z6 i 0)) y a)
theorem at_ok(g T:Nat)(X E:Option Addr)(c d:Nat)(xn xm:Bool)(xA xB:Option Addr)(xk xc xj xd:Nat)(yn ym:Bool)(yA yB:Option Addr)(yk yc yj yd:Nat)(qs rs:List Rat)(x y:Rat)(w:World)(hT:T<=10)(hc:Blk w g 70 #[.int .i64 0])(hX:FL w X T c qs)(hE:FL w E T d rs)(hx:Fr w xn xA xk xc xm xB xj xd x)(hy:Fr w yn yA yk yc ym yB yj yd y)
    (hg:PowG w) (ft:FitsT T x y) (fq:Zpv T qs x y) (fr:Zpv T rs x y) :
    Calls Tryz.prog 29 #[.pointer (some ⟨g,0,none⟩),.agg #[.int .i64 T,.slice X T c,.slice E T d],.agg #[.bool xn,.slice xA xk xc,.bool xm,.slice xB xj xd],.agg #[.bool yn,.slice yA yk yc,.bool ym,.slice yB yj yd]] w λe w'=>Below w.heap.size w w'/\∃ un uA uk uc um uB uj ud vn vA vk vc vm vB vj vd,e=.returned (.tuple #[.agg #[.bool un,.slice uA uk uc,.bool um,.slice uB uj ud],.agg #[.bool vn,.slice vA vk vc,.bool vm,.slice vB vj vd]])/\Fr w' un uA uk uc um uB uj ud (Zdp qs x y T)/\Fr w' vn vA vk vc vm vB vj vd (Zdp rs x y T):=by
 have hmx:=Gt;obtain⟨W0,n4,j2,⟨q0,q1,q2,q3,q4⟩,s0⟩:=Zr6 w 27 #[.int .i64 T,.slice X T c,.slice E T d] 32 #[.bool xn,.slice xA xk xc,.bool xm,.slice xB xj xd] 32 #[.bool yn,.slice yA yk yc,.bool ym,.slice yB yj yd] 32 #[.bool false,.slice none 0 0,.bool false,.slice none 0 0] 32 #[.bool false,.slice none 0 0,.bool false,.slice none 0 0];have lg:=hc.lt;have cX:=hX.cap;have cE:=hE.cap;replace q0:=Zb q0;replace q1:=Zb q1;replace q2:=Zb q2;replace q3:=Zb q3;replace q4:=Zb q4;replace j2:=Zb j2;replace s0:=Zb s0;replace ft:=Zb ft;replace fq:=Zb fq;replace fr:=Zb fr;replace hX:=Zb hX;replace hE:=Zb hE;replace hx:=Zb hx;replace hy:=Zb hy;replace hg:=Zb hg;replace hc:=Zb hc;go_in;obtain⟨x0,x1,x2,x3,-⟩:=q1.out.four;obtain⟨y0,y1,y2,y3,-⟩:=q2.out.four;go_wp2_with fail;(try rw[n4]);clear q1 q2 n4;obtain⟨g1,f8⟩:=Gz W0.heap.size;obtain⟨V3,o8,q5,h⟩:=Zz (w:=W0) 65 #[.bool xn,.slice xA xk xc,.bool xm,.slice xB xj xd,.bool yn,.slice yA yk yc,.bool ym,.slice yB yj yd];rw[f8]at q5;replace q0:=Gm h q0;replace q3:=Gm h q3;replace q4:=Gm h q4;have m0:=Gn j2 h;clear j2 h;replace q5:=Zb q5;(try rw[f8]);(try rw[o8]);clear o8 x0 x1 x2 x3 y0 y1 y2 y3;replace f8:=Zb f8;refine(Zg0 0 V3 Gi Gi).mono ?_;rintro e w8 ⟨b9,un,uA,uk,uc,um,uB,uj,ud,rfl,uf⟩;replace q0:=Gm b9 q0;replace q3:=Gm b9 q3;replace q4:=Gm b9 q4
 replace q5:=Gm b9 q5;have m1:=Gn m0 b9;clear m0 b9;replace uf:=Zb uf;go_wp2_with fail;refine(Zg0 0 w8 Gi Gi).mono ?_;rintro e v0 ⟨g6,vn,vA,vk,vc,vm,vB,vj,vd,rfl,vf⟩;replace q0:=Gm g6 q0;replace q3:=Gm g6 q3;replace q4:=Gm g6 q4;replace q5:=Gm g6 q5;replace uf:=Zb (uf.out.below g6);have l0:=Gn m1 g6;clear m1 g6;replace vf:=Zb vf;obtain⟨z0,z1,z2,z3,z4,z5,z6,z7⟩:=q3.out.four;obtain⟨Y1,n1,l3,o7,m3,j9,-⟩:=Zm un uA uk uc um uB uj ud l0.out Gk q3.out;have e9:=j9 _ _ _ Gk q4.out;have j3:=j9 _ _ _ Gk q0.out;have i0:=j9 _ _ _ (by have h1:=f8.out;have h2:=s0.out;omega) q5.out;obtain⟨y0,y1,y2,y3,y4,y5,y6,y7⟩:=e9.four;obtain⟨Y2,p4,g9,k9,l8,j8,-⟩:=Zm vn vA vk vc vm vB vj vd l3 Gk e9;have uZ:=Zb (Fr.keep (Fr.keep uf.out m3) l8);have vZ:=Zb (Fr.keep (Fr.keep vf.out m3) l8);have m6:=Zb (j8 _ _ _ Gk o7);have i6:=Zb (j8 _ _ _ Gk j3);have j4:=Zb (j8 _ _ _ (by have h1:=f8.out;have h2:=s0.out;omega) i0);have x0:Y2.cell? ⟨w.heap.size,0,none⟩=some (.int .i64 T):=i6.out.cell 0;replace k9:=Zb k9;replace g9:=Zb g9;clear m3 l8 j9 j8 e9 j3 i0 o7;go_wp2_with fail;(try rw[n1]);go_simp;(try rw[p4]);clear n1 p4 z0 z1 z2 z3 z4 z5 z6 z7 y0 y1 y2 y3 y4 y5 y6 y7 q0 q3 q4 q5 uf vf l0 l3;have r4:Hid (w.heap.size+1+1+1+1<g1):=Zb (by have h1:=f8.out;have h2:=s0.out;omega);have t6:=Zb j4.out.lt;clear x0 s0 f8
 go_loopg [22] T (λk iv wr=>∃ (i:Nat) (un:Bool) (uA:Option Addr) (uk uc:Nat) (um:Bool) (uB:Option Addr) (uj ud:Nat) (vn:Bool) (vA:Option Addr) (vk vc:Nat) (vm:Bool) (vB:Option Addr) (vj vd:Nat),i+k=T/\iv=.int .i64 i/\Blk wr w.heap.size 27 #[.int .i64 T,.slice X T c,.slice E T d]/\Blk wr g1 65 #[.bool xn,.slice xA xk xc,.bool xm,.slice xB xj xd,.bool yn,.slice yA yk yc,.bool ym,.slice yB yj yd]/\Blk wr (w.heap.size+1+1+1) 32 #[.bool un,.slice uA uk uc,.bool um,.slice uB uj ud]/\Fr wr un uA uk uc um uB uj ud (Zdp qs x y i)/\Blk wr (w.heap.size+1+1+1+1) 32 #[.bool vn,.slice vA vk vc,.bool vm,.slice vB vj vd]/\Fr wr vn vA vk vc vm vB vj vd (Zdp rs x y i)/\Below w.heap.size w wr)
 case atStart=>exact⟨0,un,uA,uk,uc,um,uB,uj,ud,vn,vA,vk,vc,vm,vB,vj,vd,by omega,rfl,i6.out,j4.out,m6.out,uZ.out,k9.out,vZ.out,g9.out⟩
 case round =>
  clear i6 j4 m6 uZ k9 vZ g9 t6;obtain⟨i,un,uA,uk,uc,um,uB,uj,ud,vn,vA,vk,vc,vm,vB,vj,vd,v3,rfl,q0,qA,q3,uf,q4,vf,hB⟩:=hrel;obtain⟨wA,rfl⟩:=Gy wr;replace q0:=Zb q0;replace qA:=Zb qA;replace q3:=Zb q3;replace q4:=Zb q4;replace uf:=Zb uf;replace vf:=Zb vf;replace hB:=Zb hB;cases gk with
  | zero =>
   obtain rfl:i=T:=Gk;have tge:decide ((i:Int)<(i:Int))=false:=Gh;go_wp2_with fail;have j5:wA.cell? ⟨(w.heap.size+1+1+1),0,none⟩=some (.bool un):=q3.out.cell 0;have i3:wA.cell? ⟨(w.heap.size+1+1+1),1,none⟩=some (.slice uA uk uc):=q3.out.cell 1;have c5:wA.cell? ⟨(w.heap.size+1+1+1),2,none⟩=some (.bool um):=q3.out.cell 2;have c7:wA.cell? ⟨(w.heap.size+1+1+1),3,none⟩=some (.slice uB uj ud):=q3.out.cell 3;have d4:wA.cell? ⟨(w.heap.size+1+1+1+1),0,none⟩=some (.bool vn):=q4.out.cell 0;have c9:wA.cell? ⟨(w.heap.size+1+1+1+1),1,none⟩=some (.slice vA vk vc):=q4.out.cell 1;have d5:wA.cell? ⟨(w.heap.size+1+1+1+1),2,none⟩=some (.bool vm):=q4.out.cell 2;have c6:wA.cell? ⟨(w.heap.size+1+1+1+1),3,none⟩=some (.slice vB vj vd):=q4.out.cell 3;have c8:Below wA.heap.size wA wA.drew:=Zg (Qa _ _) 1;replace q3:=Gm c8 q3;replace q4:=Gm c8 q4;replace uf:=Zb (uf.out.below c8);replace vf:=Zb (vf.out.below c8);have l2:=Gn hB c8;clear hB;replace j5:=Za c8 j5;replace i3:=Za c8 i3;replace c5:=Za c8 c5;replace c7:=Za c8 c7;replace d4:=Za c8 d4;replace c9:=Za c8 c9;replace d5:=Za c8 d5;replace c6:=Za c8 c6;clear c8
   refine Zad [3] (λwx=>(wx.cell? ⟨(w.heap.size+1+1+1),0,none⟩=some (.bool un))/\(wx.cell? ⟨(w.heap.size+1+1+1),1,none⟩=some (.slice uA uk uc))/\(wx.cell? ⟨(w.heap.size+1+1+1),2,none⟩=some (.bool um))/\(wx.cell? ⟨(w.heap.size+1+1+1),3,none⟩=some (.slice uB uj ud))/\(wx.cell? ⟨(w.heap.size+1+1+1+1),0,none⟩=some (.bool vn))/\(wx.cell? ⟨(w.heap.size+1+1+1+1),1,none⟩=some (.slice vA vk vc))/\(wx.cell? ⟨(w.heap.size+1+1+1+1),2,none⟩=some (.bool vm))/\(wx.cell? ⟨(w.heap.size+1+1+1+1),3,none⟩=some (.slice vB vj vd))) hmx ⟨j5,i3,c5,c7,d4,c9,d5,c6⟩ (λ_=>?_);refine Zin 2 [0,1] rfl Gj ⟨j5,i3,c5,c7,d4,c9,d5,c6⟩ ?_
   iterate 2 (refine tkA ?_;try simp only[Qc,Zf6,Zfl,Zfx,Gr,Gq,Gp])
   refine tk0 ?_;clear j5 i3 c5 c7 d4 c9 d5 c6;obtain⟨wD,o9⟩:∃ z:World,wA.drew=z:=⟨_,rfl⟩;rw[o9]at q3 q4 uf vf l2 ⊢;clear o9;obtain⟨z0,z1,z2,z3,z4,z5,z6,z7⟩:=q3.out.four;obtain⟨Y3,i4,i8,h7,g7,g4,-⟩:=Zm un uA uk uc um uB uj ud l2.out Gk q3.out;have e9:=g4 _ _ _ Gk q4.out;obtain⟨k0,k1,k2,k3,-⟩:=h7.four;obtain⟨k4,k5,k6,k7,-⟩:=e9.four;refine wpAnyL_o 2 λK hK=>?_;go_simp;(try rw[i4]);refine hK.out _ _ (λ_=>⟨k0,k1,k2,k3,k4,k5,k6,k7⟩) ?_;clear hK K i4 k0 k1 k2 k3 k4 k5 k6 k7 z0 z1 z2 z3 z4 z5 z6 z7
   try simp only[Qc,Zf6,Zfl,Zfx,Gr,Gq,Gp]
   obtain⟨z0,z1,z2,z3,z4,z5,z6,z7⟩:=e9.four;obtain⟨Y4,i2,f0,h5,f9,g5,-⟩:=Zm vn vA vk vc vm vB vj vd i8 Gk e9;have uY:=Zb (Fr.keep (Fr.keep uf.out g7) f9);have vY:=Zb (Fr.keep (Fr.keep vf.out g7) f9);have k8:=g5 _ _ _ Gk h7;refine Zr (i:=3) rfl Gj Gj (λK hK=>?_);go_simp;(try rw[i2]);refine hK.out _ _ ?_;clear hK K i2 z0 z1 z2 z3 z4 z5 z6 z7
   try simp only[Qc,Zf6,Zfl,Zfx,Gr,Gq,Gp]
   refine wpAnyL_fin ?_;obtain⟨c0,c1,c2,c3,-⟩:=k8.four;obtain⟨d0,d1,d2,d3,-⟩:=h5.four;replace f0:=Zb f0;clear g7 g4 f9 g5 e9 h7 k8 h5;go_wp2_with fail;refine bodyPost_ret (v:=.tuple #[.agg #[.bool un,.slice uA uk uc,.bool um,.slice uB uj ud],.agg #[.bool vn,.slice vA vk vc,.bool vm,.slice vB vj vd]]) (by simp[results,Tryz.results29,go_sem,c0,c1,c2,c3,d0,d1,d2,d3]) rfl ?_;exact⟨f0.out,_,_,_,_,_,_,_,_,_,_,_,_,_,_,_,_,rfl,uY.out,vY.out⟩
  | succ gk' =>
   obtain rfl:gk'=T-(i+1):=Gk;have f5:i<T:=Gk;have h3:i<10:=Gk;have tlt:decide ((i:Int)<(T:Int))=true:=by simp;omega
   have bI:(i:Int)<(T:Int):=Gk;have bJ:(i:Int)<10:=Gk;go_wp2_with fail;refine(Zg0 1 wA Gi Gi).mono ?_;rintro e w1 ⟨b9,tn,tA,tk,tc,tm,tB,tj,td,rfl,tf⟩;replace q0:=Gm b9 q0;replace qA:=Gm b9 qA;replace q3:=Gm b9 q3;replace q4:=Gm b9 q4;replace uf:=Zb (uf.out.below b9);replace vf:=Zb (vf.out.below b9);have f4:=Gn hB b9;clear hB b9;obtain⟨gt,j7⟩:=Gz w1.heap.size;obtain⟨V,hV,qt,b0⟩:=Zz (w:=w1) 32 #[.bool tn,.slice tA tk tc,.bool tm,.slice tB tj td];rw[j7]at qt;have tV:=Zb (tf.below b0);have l9:=Gn f4 b0;have g0:=(hg.out.below l9.out) i 0 h3 Gi;have t7:=(hg.out.below l9.out) i 1 h3 Gi;rw[Nat.add_zero]at g0;replace qt:=Zb qt;replace b0:=Zb b0;clear tf l9;go_wp2_with fail;(try rw[j7]);(try rw[hV]);clear hV;go_wp2_with fail;clear g0 t7
   go_loopg [29] 2 (λk iv wr=>∃ (kk:Nat) (tn:Bool) (tA:Option Addr) (tk tc:Nat) (tm:Bool) (tB:Option Addr) (tj td:Nat),kk+k=2/\iv=.int .i64 kk/\Blk wr gt 32 #[.bool tn,.slice tA tk tc,.bool tm,.slice tB tj td]/\Fr wr tn tA tk tc tm tB tj td (ptQ x y i kk)/\Below w1.heap.size w1 wr)
   case atStart=>exact⟨0,tn,tA,tk,tc,tm,tB,tj,td,by omega,rfl,qt.out,tV.out,b0.out⟩
   case round =>
    clear qt tV b0;obtain⟨kk,tn,tA,tk,tc,tm,tB,tj,td,v5,rfl,qt,tf,b0⟩:=hrel;obtain⟨wB,rfl⟩:=Gy wr;replace qt:=Zb qt;replace tf:=Zb tf;replace b0:=Zb b0;have t3:kk=0 \/ kk=1 \/ kk=2:=Gk;rcases t3 with rfl|rfl|rfl
    ·have p9:=Zka (k:=0) h3 Gi
     cases gk with
     | zero=>omega
     | succ gk0 =>
      obtain rfl:gk0=1:=Gk
      (try rw[show ((0:Nat):Int)=0 from rfl]);go_wp2_with fail
      go_loopg [34] (Z6 i 0) (λk jv wr=>∃ (j:Nat) (tn:Bool) (tA:Option Addr) (tk tc:Nat) (tm:Bool) (tB:Option Addr) (tj td:Nat),j+k=(Z6 i 0)/\jv=.int .i64 j/\Blk wr gt 32 #[.bool tn,.slice tA tk tc,.bool tm,.slice tB tj td]/\Fr wr tn tA tk tc tm tB tj td (mulN 1 x j)/\Below w1.heap.size w1 wr)
      case atStart=>exact⟨0,tn,tA,tk,tc,tm,tB,tj,td,by omega,rfl,qt.out,tf.out,b0.out⟩
      case round =>
       clear qt tf b0;obtain⟨j,tn,tA,tk,tc,tm,tB,tj,td,r7,rfl,qt,tf,b0⟩:=hrel;obtain⟨wC,rfl⟩:=Gy wr;have b8:=Gn f4 b0;have b5:=Gm b0 qA;replace qt:=Zb qt;replace tf:=Zb tf;replace b0:=Zb b0;cases gk with
       | zero =>
        obtain rfl:j=(Z6 i 0):=Gk;have o6:decide ((((Z6 i 0):Nat):Int)<(((Z6 i 0):Nat):Int))=false:=Gh;go_wp2_with fail
        go_roundg 1
        case measure=>omega
        case rel=>exact⟨1,tn,tA,tk,tc,tm,tB,tj,td,by omega,by go_num,qt.out,tf.out,b0.out⟩
       | succ gk3 =>
        obtain rfl:gk3=(Z6 i 0)-(j+1):=Gk;have r8:j<(Z6 i 0):=Gk;have p5:decide ((j:Int)<(((Z6 i 0):Nat):Int))=true:=by simp;omega
        have r6:(j:Int)<(((Z6 i 0):Nat):Int):=Gk;have smt:=Zb (ft.out.one i j f5 Gk);have sma:=Zb ft.out.px;have l7:Hid (mulN 1 x (j+1)=mulN 1 x j*x):=Zb rfl;have d6:=Zb (hx.out.below b8.out);have d7:=Zb (Zc b8.out hc.out);go_wp2_with fail;have c5:wC.cell? ⟨gt,0,none⟩=some (.bool tn):=qt.out.cell 0;have c7:wC.cell? ⟨gt,1,none⟩=some (.slice tA tk tc):=qt.out.cell 1;have d4:wC.cell? ⟨gt,2,none⟩=some (.bool tm):=qt.out.cell 2;have c9:wC.cell? ⟨gt,3,none⟩=some (.slice tB tj td):=qt.out.cell 3;have d5:wC.cell? ⟨g1,0,none⟩=some (.bool xn):=b5.out.cell 0;have c6:wC.cell? ⟨g1,1,none⟩=some (.slice xA xk xc):=b5.out.cell 1;have f7:wC.cell? ⟨g1,2,none⟩=some (.bool xm):=b5.out.cell 2;have e4:wC.cell? ⟨g1,3,none⟩=some (.slice xB xj xd):=b5.out.cell 3;have b1:Below wC.heap.size wC wC.drew:=Zg (Qa _ _) 1;replace b8:=Gn b8 b1;replace qt:=Gm b1 qt;replace tf:=Zb (tf.out.below b1);replace d6:=Zb (d6.out.below b1);replace d7:=Gm b1 d7;replace b5:=Gm b1 b5;have i5:=Gn b0 b1;clear b0;replace c5:=Za b1 c5;replace c7:=Za b1 c7;replace d4:=Za b1 d4;replace c9:=Za b1 c9;replace d5:=Za b1 d5;replace c6:=Za b1 c6;replace f7:=Za b1 f7;replace e4:=Za b1 e4;clear b1
        refine Zad [6] (λwx=>(wx.cell? ⟨gt,0,none⟩=some (.bool tn))/\(wx.cell? ⟨gt,1,none⟩=some (.slice tA tk tc))/\(wx.cell? ⟨gt,2,none⟩=some (.bool tm))/\(wx.cell? ⟨gt,3,none⟩=some (.slice tB tj td))/\(wx.cell? ⟨g1,0,none⟩=some (.bool xn))/\(wx.cell? ⟨g1,1,none⟩=some (.slice xA xk xc))/\(wx.cell? ⟨g1,2,none⟩=some (.bool xm))/\(wx.cell? ⟨g1,3,none⟩=some (.slice xB xj xd))) hmx ⟨c5,c7,d4,c9,d5,c6,f7,e4⟩ (λ_=>?_);refine Zin 5 [0,1,2,3,4] rfl Gj ⟨c5,c7,d4,c9,d5,c6,f7,e4⟩ ?_
        iterate 5 (refine tkA ?_;try simp only[Qc,Zf6,Zfl,Zfx,Gr,Gq,Gp])
        refine tk0 ?_;refine wpAnyL_o 5 λK hK=>?_
        (try rw[Gx Gj]);go_simp;refine(Zew g tn tm xn xm tA tB xA xB tk tc tj td xk xc xj xd (mulN 1 x j) x wC.drew d7.out tf.out d6.out smt.out sma.out).mono ?_;rintro e v6 ⟨f,sn,sA,sk,sc,sm,sB,sj,sd,rfl,sf⟩;replace b8:=Gn b8 f;replace qt:=Gm f qt;replace tf:=Zb (tf.out.below f);replace d6:=Zb (d6.out.below f);replace d7:=Gm f d7;replace b5:=Gm f b5;have n2:=Gn i5 f;clear i5;replace c5:=Za f c5;replace c7:=Za f c7;replace d4:=Za f d4;replace c9:=Za f c9;replace d5:=Za f d5;replace c6:=Za f c6;replace f7:=Za f f7;replace e4:=Za f e4;clear f;refine hK.out _ _ (λ_=>⟨c5,c7,d4,c9,d5,c6,f7,e4⟩) ?_;clear hK K
        try simp only[Qc,Zf6,Zfl,Zfx,Gr,Gq,Gp]
        replace sf:=Zb sf;obtain⟨z0,z1,z2,z3,z4,z5,z6,z7⟩:=qt.out.four;obtain⟨Z5,hZ,g2,qZ,kZ,bZ,-⟩:=Zm sn sA sk sc sm sB sj sd n2.out (by rw[j7];exact Qf _) qt.out;have l5:=Zb (Fr.keep sf.out kZ);refine Zr (i:=6) rfl Gj Gj (λK hK=>?_);go_simp;(try rw[hZ]);refine hK.out _ _ ?_;clear hK K
        try simp only[Qc,Zf6,Zfl,Zfx,Gr,Gq,Gp]
        refine wpAnyL_fin ?_;replace qZ:=Zb qZ;replace g2:=Zb g2;clear kZ bZ z0 z1 z2 z3 z4 z5 z6 z7 qt tf sf d6 d7 b5 c5 c7 d4 c9 d5 c6 f7 e4;go_wp2_with fail
        go_roundg ((Z6 i 0)-(j+1))
        case measure=>omega
        case rel=>exact⟨j+1,sn,sA,sk,sc,sm,sB,sj,sd,by omega,by go_num,qZ.out,by rw[l7.out];exact l5.out,g2.out⟩
    ·have p9:=Zka (k:=1) h3 Gi
     cases gk with
     | zero=>omega
     | succ gk0 =>
      obtain rfl:gk0=0:=Gk
      (try rw[show ((1:Nat):Int)=1 from rfl]);go_wp2_with fail
      go_loopg [34] (Z6 i 1) (λk jv wr=>∃ (j:Nat) (tn:Bool) (tA:Option Addr) (tk tc:Nat) (tm:Bool) (tB:Option Addr) (tj td:Nat),j+k=(Z6 i 1)/\jv=.int .i64 j/\Blk wr gt 32 #[.bool tn,.slice tA tk tc,.bool tm,.slice tB tj td]/\Fr wr tn tA tk tc tm tB tj td (mulN (mulN 1 x (Z6 i 0)) y j)/\Below w1.heap.size w1 wr)
      case atStart=>exact⟨0,tn,tA,tk,tc,tm,tB,tj,td,by omega,rfl,qt.out,tf.out,b0.out⟩
      case round =>
       clear qt tf b0;obtain⟨j,tn,tA,tk,tc,tm,tB,tj,td,r7,rfl,qt,tf,b0⟩:=hrel;obtain⟨wC,rfl⟩:=Gy wr;have b8:=Gn f4 b0;have b5:=Gm b0 qA;replace qt:=Zb qt;replace tf:=Zb tf;replace b0:=Zb b0;cases gk with
       | zero =>
        obtain rfl:j=(Z6 i 1):=Gk;have o6:decide ((((Z6 i 1):Nat):Int)<(((Z6 i 1):Nat):Int))=false:=Gh;go_wp2_with fail
        go_roundg 0
        case measure=>omega
        case rel=>exact⟨2,tn,tA,tk,tc,tm,tB,tj,td,by omega,by go_num,qt.out,tf.out,b0.out⟩
       | succ gk3 =>
        obtain rfl:gk3=(Z6 i 1)-(j+1):=Gk;have r8:j<(Z6 i 1):=Gk;have p5:decide ((j:Int)<(((Z6 i 1):Nat):Int))=true:=by simp;omega
        have r6:(j:Int)<(((Z6 i 1):Nat):Int):=Gk;have smt:=Zb (ft.out.two i j f5 Gk);have sma:=Zb ft.out.py;have l7:Hid (mulN (mulN 1 x (Z6 i 0)) y (j+1)=mulN (mulN 1 x (Z6 i 0)) y j*y):=Zb rfl;have d6:=Zb (hy.out.below b8.out);have d7:=Zb (Zc b8.out hc.out);go_wp2_with fail;have d8:wC.cell? ⟨gt,0,none⟩=some (.bool tn):=qt.out.cell 0;have d9:wC.cell? ⟨gt,1,none⟩=some (.slice tA tk tc):=qt.out.cell 1;have e7:wC.cell? ⟨gt,2,none⟩=some (.bool tm):=qt.out.cell 2;have e5:wC.cell? ⟨gt,3,none⟩=some (.slice tB tj td):=qt.out.cell 3;have e1:wC.cell? ⟨g1,4,none⟩=some (.bool yn):=b5.out.cell 4;have e0:wC.cell? ⟨g1,5,none⟩=some (.slice yA yk yc):=b5.out.cell 5;have e3:wC.cell? ⟨g1,6,none⟩=some (.bool ym):=b5.out.cell 6;have e6:wC.cell? ⟨g1,7,none⟩=some (.slice yB yj yd):=b5.out.cell 7;have b2:Below wC.heap.size wC wC.drew:=Zg (Qa _ _) 1;replace b8:=Gn b8 b2;replace qt:=Gm b2 qt;replace tf:=Zb (tf.out.below b2);replace d6:=Zb (d6.out.below b2);replace d7:=Gm b2 d7;replace b5:=Gm b2 b5;have i9:=Gn b0 b2;clear b0;replace d8:=Za b2 d8;replace d9:=Za b2 d9;replace e7:=Za b2 e7;replace e5:=Za b2 e5;replace e1:=Za b2 e1;replace e0:=Za b2 e0;replace e3:=Za b2 e3;replace e6:=Za b2 e6;clear b2
        refine Zad [6] (λwx=>(wx.cell? ⟨gt,0,none⟩=some (.bool tn))/\(wx.cell? ⟨gt,1,none⟩=some (.slice tA tk tc))/\(wx.cell? ⟨gt,2,none⟩=some (.bool tm))/\(wx.cell? ⟨gt,3,none⟩=some (.slice tB tj td))/\(wx.cell? ⟨g1,4,none⟩=some (.bool yn))/\(wx.cell? ⟨g1,5,none⟩=some (.slice yA yk yc))/\(wx.cell? ⟨g1,6,none⟩=some (.bool ym))/\(wx.cell? ⟨g1,7,none⟩=some (.slice yB yj yd))) hmx ⟨d8,d9,e7,e5,e1,e0,e3,e6⟩ (λ_=>?_);refine Zin 5 [0,1,2,3,4] rfl Gj ⟨d8,d9,e7,e5,e1,e0,e3,e6⟩ ?_
        iterate 5 (refine tkA ?_;try simp only[Qc,Zf6,Zfl,Zfx,Gr,Gq,Gp])
        refine tk0 ?_;refine wpAnyL_o 5 λK hK=>?_
        (try rw[Gx Gj]);go_simp;refine(Zew g tn tm yn ym tA tB yA yB tk tc tj td yk yc yj yd (mulN (mulN 1 x (Z6 i 0)) y j) y wC.drew d7.out tf.out d6.out smt.out sma.out).mono ?_;rintro e t9 ⟨f,sn,sA,sk,sc,sm,sB,sj,sd,rfl,sf⟩;replace b8:=Gn b8 f;replace qt:=Gm f qt;replace tf:=Zb (tf.out.below f);replace d6:=Zb (d6.out.below f);replace d7:=Gm f d7;replace b5:=Gm f b5;have p7:=Gn i9 f;clear i9;replace d8:=Za f d8;replace d9:=Za f d9;replace e7:=Za f e7;replace e5:=Za f e5;replace e1:=Za f e1;replace e0:=Za f e0;replace e3:=Za f e3;replace e6:=Za f e6;clear f;refine hK.out _ _ (λ_=>⟨d8,d9,e7,e5,e1,e0,e3,e6⟩) ?_;clear hK K
        try simp only[Qc,Zf6,Zfl,Zfx,Gr,Gq,Gp]
        replace sf:=Zb sf;obtain⟨z0,z1,z2,z3,z4,z5,z6,z7⟩:=qt.out.four;obtain⟨Z5,hZ,g2,qZ,kZ,bZ,-⟩:=Zm sn sA sk sc sm sB sj sd p7.out (by rw[j7];exact Qf _) qt.out;have l5:=Zb (Fr.keep sf.out kZ);refine Zr (i:=6) rfl Gj Gj (λK hK=>?_);go_simp;(try rw[hZ]);refine hK.out _ _ ?_;clear hK K
        try simp only[Qc,Zf6,Zfl,Zfx,Gr,Gq,Gp]
        refine wpAnyL_fin ?_;replace qZ:=Zb qZ;replace g2:=Zb g2;clear kZ bZ z0 z1 z2 z3 z4 z5 z6 z7 qt tf sf d6 d7 b5 d8 d9 e7 e5 e1 e0 e3 e6;go_wp2_with fail
        go_roundg ((Z6 i 1)-(j+1))
        case measure=>omega
        case rel=>exact⟨j+1,sn,sA,sk,sc,sm,sB,sj,sd,by omega,by go_num,qZ.out,by rw[l7.out];exact l5.out,g2.out⟩
    cases gk with
    | succ gk0=>omega
    | zero =>
     (try rw[show ((2:Nat):Int)=2 from rfl]);go_wp2_with fail;have h4:=Zb (Gs f4.out b0.out);have b6:=Zb (Zc b0.out q0.out);have c4:=Zb (Zc b0.out qA.out);have b3:=Zb (Zc b0.out q3.out);have b4:=Zb (Zc b0.out q4.out);have ub:=Zb (uf.out.below b0.out);have vb:=Zb (vf.out.below b0.out);have b7:=Zb (Zc h4.out hc.out);obtain⟨gX,oX,an,aA,ak,ac,am,aB,aj,ad,rfl,⟨p0,p1,p2,p3⟩,af⟩:=(hX.out.below h4.out).at_ f5;obtain⟨gE,oE,bn,bA,bk,bc,bm,bB,bj,bd,rfl,⟨r0,r1,r2,r3⟩,bf⟩:=(hE.out.below h4.out).at_ f5;replace af:=Zb af;replace bf:=Zb bf;have tmf:Hid (Fr wB tn tA tk tc tm tB tj td (tmQ x y i)):=tf;have lgt:Hid (g1<gt):=Zb (by have:=qA.out.lt;omega);clear q0 qA q3 q4 uf vf tf b0 f4;have s1:=Zb (fq.out.fac i f5);have s2:Hid (Sm (tmQ x y i)):=Zb (ft.out.two i (Z6 i 1) f5 (Qf _));have s3:=Zb (fq.out.pro i f5);have s4:=Zb (fq.out.sum i Gk);have s5:=Zb (fq.out.sum (i+1) Gk);have s6:=Zb (fr.out.fac i f5);have s7:=Zb (fr.out.pro i f5);have s8:=Zb (fr.out.sum i Gk);have s9:=Zb (fr.out.sum (i+1) Gk);have t8:=r4.out;have a6:wB.cell? ⟨w.heap.size,0,none⟩=some (.int .i64 T):=b6.out.cell 0;have a7:wB.cell? ⟨w.heap.size,1,none⟩=some (.slice (some ⟨gX,oX,none⟩) T c):=b6.out.cell 1;have a4:wB.cell? ⟨w.heap.size,2,none⟩=some (.slice (some ⟨gE,oE,none⟩) T d):=b6.out.cell 2;have a1:wB.cell? ⟨(w.heap.size+1+1+1),0,none⟩=some (.bool un):=b3.out.cell 0
     have a3:wB.cell? ⟨(w.heap.size+1+1+1),1,none⟩=some (.slice uA uk uc):=b3.out.cell 1;have a0:wB.cell? ⟨(w.heap.size+1+1+1),2,none⟩=some (.bool um):=b3.out.cell 2;have Y:wB.cell? ⟨(w.heap.size+1+1+1),3,none⟩=some (.slice uB uj ud):=b3.out.cell 3;have a5:wB.cell? ⟨(w.heap.size+1+1+1+1),0,none⟩=some (.bool vn):=b4.out.cell 0;have a9:wB.cell? ⟨(w.heap.size+1+1+1+1),1,none⟩=some (.slice vA vk vc):=b4.out.cell 1;have J:wB.cell? ⟨(w.heap.size+1+1+1+1),2,none⟩=some (.bool vm):=b4.out.cell 2;have U:wB.cell? ⟨(w.heap.size+1+1+1+1),3,none⟩=some (.slice vB vj vd):=b4.out.cell 3;have I:wB.cell? ⟨gt,0,none⟩=some (.bool tn):=qt.out.cell 0;have a2:wB.cell? ⟨gt,1,none⟩=some (.slice tA tk tc):=qt.out.cell 1;have a8:wB.cell? ⟨gt,2,none⟩=some (.bool tm):=qt.out.cell 2;have O:wB.cell? ⟨gt,3,none⟩=some (.slice tB tj td):=qt.out.cell 3;have C:Below wB.heap.size wB wB.drew:=Zg (Qa _ _) 1;replace b6:=Gm C b6;replace c4:=Gm C c4;replace b3:=Gm C b3;replace b4:=Gm C b4;replace b7:=Gm C b7;replace qt:=Gm C qt;replace ub:=Zb (ub.out.below C);replace vb:=Zb (vb.out.below C);replace af:=Zb (af.out.below C);replace bf:=Zb (bf.out.below C);replace tmf:=Zb (tmf.out.below C);have j6:=Gn h4 C;clear h4;replace a6:=Za C a6
     replace a7:=Za C a7;replace a4:=Za C a4;replace a1:=Za C a1;replace a3:=Za C a3;replace a0:=Za C a0;replace Y:=Za C Y;replace a5:=Za C a5;replace a9:=Za C a9;replace J:=Za C J;replace U:=Za C U;replace I:=Za C I;replace a2:=Za C a2;replace a8:=Za C a8;replace O:=Za C O;replace p0:=Za C p0;replace p1:=Za C p1;replace p2:=Za C p2;replace p3:=Za C p3;replace r0:=Za C r0;replace r1:=Za C r1;replace r2:=Za C r2;replace r3:=Za C r3;clear C
     refine Zad [24,25] (λwx=>(wx.cell? ⟨w.heap.size,0,none⟩=some (.int .i64 T))/\(wx.cell? ⟨w.heap.size,1,none⟩=some (.slice (some ⟨gX,oX,none⟩) T c))/\(wx.cell? ⟨w.heap.size,2,none⟩=some (.slice (some ⟨gE,oE,none⟩) T d))/\(wx.cell? ⟨(w.heap.size+1+1+1),0,none⟩=some (.bool un))/\(wx.cell? ⟨(w.heap.size+1+1+1),1,none⟩=some (.slice uA uk uc))/\(wx.cell? ⟨(w.heap.size+1+1+1),2,none⟩=some (.bool um))/\(wx.cell? ⟨(w.heap.size+1+1+1),3,none⟩=some (.slice uB uj ud))/\(wx.cell? ⟨(w.heap.size+1+1+1+1),0,none⟩=some (.bool vn))/\(wx.cell? ⟨(w.heap.size+1+1+1+1),1,none⟩=some (.slice vA vk vc))/\(wx.cell? ⟨(w.heap.size+1+1+1+1),2,none⟩=some (.bool vm))/\(wx.cell? ⟨(w.heap.size+1+1+1+1),3,none⟩=some (.slice vB vj vd))/\(wx.cell? ⟨gt,0,none⟩=some (.bool tn))/\(wx.cell? ⟨gt,1,none⟩=some (.slice tA tk tc))/\(wx.cell? ⟨gt,2,none⟩=some (.bool tm))/\(wx.cell? ⟨gt,3,none⟩=some (.slice tB tj td))/\(wx.cell? ⟨gX,oX+i*4,none⟩=some (.bool an))/\(wx.cell? ⟨gX,oX+i*4+1,none⟩=some (.slice aA ak ac))/\(wx.cell? ⟨gX,oX+i*4+2,none⟩=some (.bool am))/\(wx.cell? ⟨gX,oX+i*4+3,none⟩=some (.slice aB aj ad))/\(wx.cell? ⟨gE,oE+i*4,none⟩=some (.bool bn))/\(wx.cell? ⟨gE,oE+i*4+1,none⟩=some (.slice bA bk bc))/\(wx.cell? ⟨gE,oE+i*4+2,none⟩=some (.bool bm))/\(wx.cell? ⟨gE,oE+i*4+3,none⟩=some (.slice bB bj bd))) hmx ⟨a6,a7,a4,a1,a3,a0,Y,a5,a9,J,U,I,a2,a8,O,p0,p1,p2,p3,r0,r1,r2,r3⟩ (λ_=>?_);refine Zin 9 [0,1,2,3,4,5,6,7,8] rfl Gj ⟨a6,a7,a4,a1,a3,a0,Y,a5,a9,J,U,I,a2,a8,O,p0,p1,p2,p3,r0,r1,r2,r3⟩ ?_
     iterate 9 (refine tkA ?_;try simp only[Qc,Zf6,Zfl,Zfx,Gr,Gq,Gp])
     refine tk0 ?_;refine Zbr (i:=12) (v:=?vt22) [23] rfl Gj Gj Gj Gj Gj Gj (Qk ⟨by kernel_rfl,?hyt22⟩) ⟨a6,a7,a4,a1,a3,a0,Y,a5,a9,J,U,I,a2,a8,O,p0,p1,p2,p3,r0,r1,r2,r3⟩ ?rt22
     case hyt22=>(intro W2 hSw;(try dsimp only at hSw);go_simp;try with_reducible rfl)
     try simp only[Qc,Zf6,Zfl,Zfx,Gr,Gq,Gp]
     refine Zbr (i:=13) (v:=?vt23) [22,23] rfl Gj Gj Gj Gj Gj Gj (Qk ⟨by kernel_rfl,?hyt23⟩) ⟨a6,a7,a4,a1,a3,a0,Y,a5,a9,J,U,I,a2,a8,O,p0,p1,p2,p3,r0,r1,r2,r3⟩ ?rt23
     case hyt23=>(intro W2 hSw;(try dsimp only at hSw);go_simp;try with_reducible rfl)
     try simp only[Qc,Zf6,Zfl,Zfx,Gr,Gq,Gp]
     refine Zbr (i:=14) (v:=?vt24) [21,23] rfl Gj Gj Gj Gj Gj Gj (Qk ⟨by kernel_rfl,?hyt24⟩) ⟨a6,a7,a4,a1,a3,a0,Y,a5,a9,J,U,I,a2,a8,O,p0,p1,p2,p3,r0,r1,r2,r3⟩ ?rt24
     case hyt24=>(intro W2 hSw;(try dsimp only at hSw);go_simp;try with_reducible rfl)
     try simp only[Qc,Zf6,Zfl,Zfx,Gr,Gq,Gp]
     refine Zbr (i:=15) (v:=?vt25) [16,18,19,21,23] rfl Gj Gj Gj Gj Gj Gj (Qk ⟨by kernel_rfl,?hyt25⟩) ⟨a6,a7,a4,a1,a3,a0,Y,a5,a9,J,U,I,a2,a8,O,p0,p1,p2,p3,r0,r1,r2,r3⟩ ?rt25
     case hyt25=>(intro W2 hSw;(try dsimp only at hSw);go_simp;try with_reducible rfl)
     try simp only[Qc,Zf6,Zfl,Zfx,Gr,Gq,Gp]
     refine Zbr (i:=16) (v:=?vt26) [18,19,21,23] rfl Gj Gj Gj Gj Gj Gj (Qk ⟨by kernel_rfl,?hyt26⟩) ⟨a6,a7,a4,a1,a3,a0,Y,a5,a9,J,U,I,a2,a8,O,p0,p1,p2,p3,r0,r1,r2,r3⟩ ?rt26
     case hyt26=>(intro W2 hSw;(try dsimp only at hSw);go_simp;try with_reducible rfl)
     try simp only[Qc,Zf6,Zfl,Zfx,Gr,Gq,Gp]
     refine Zbr (i:=17) (v:=?vt27) [18,19,21,23] rfl Gj Gj Gj Gj Gj Gj (Qk ⟨by kernel_rfl,?hyt27⟩) ⟨a6,a7,a4,a1,a3,a0,Y,a5,a9,J,U,I,a2,a8,O,p0,p1,p2,p3,r0,r1,r2,r3⟩ ?rt27
     case hyt27=>(intro W2 hSw;(try dsimp only at hSw);go_simp;try with_reducible rfl)
     try simp only[Qc,Zf6,Zfl,Zfx,Gr,Gq,Gp]
     refine Zbr (i:=18) (v:=?vt28) [19,21,23] rfl Gj Gj Gj Gj Gj Gj (Qk ⟨by kernel_rfl,?hyt28⟩) ⟨a6,a7,a4,a1,a3,a0,Y,a5,a9,J,U,I,a2,a8,O,p0,p1,p2,p3,r0,r1,r2,r3⟩ ?rt28
     case hyt28=>(intro W2 hSw;(try dsimp only at hSw);go_simp;try with_reducible rfl)
     try simp only[Qc,Zf6,Zfl,Zfx,Gr,Gq,Gp]
     refine Zbr (i:=19) (v:=?vt29) [21,23] rfl Gj Gj Gj Gj Gj Gj (Qk ⟨by kernel_rfl,?hyt29⟩) ⟨a6,a7,a4,a1,a3,a0,Y,a5,a9,J,U,I,a2,a8,O,p0,p1,p2,p3,r0,r1,r2,r3⟩ ?rt29
     case hyt29=>(intro W2 hSw;(try dsimp only at hSw);go_simp;try with_reducible rfl)
     try simp only[Qc,Zf6,Zfl,Zfx,Gr,Gq,Gp]
     refine Zbr (i:=20) (v:=?vt30) [21,23] rfl Gj Gj Gj Gj Gj Gj (Qk ⟨by kernel_rfl,?hyt30⟩) ⟨a6,a7,a4,a1,a3,a0,Y,a5,a9,J,U,I,a2,a8,O,p0,p1,p2,p3,r0,r1,r2,r3⟩ ?rt30
     case hyt30=>(intro W2 hSw;(try dsimp only at hSw);go_simp;try with_reducible rfl)
     try simp only[Qc,Zf6,Zfl,Zfx,Gr,Gq,Gp]
     refine wpAnyL_o 9 λK hK=>?_
     (try rw[Gx Gj]);go_simp;refine(Zew g an am tn tm aA aB tA tB ak ac aj ad tk tc tj td (qs[i]?.getD 0) (tmQ x y i) wB.drew b7.out af.out tmf.out s1.out s2.out).mono ?_;rintro e o5 ⟨f,fan,r5,fak,fac,fam,q8,faj,fad,rfl,faf⟩;replace b6:=Gm f b6;replace c4:=Gm f c4;replace b3:=Gm f b3;replace b4:=Gm f b4;replace b7:=Gm f b7;replace qt:=Gm f qt;replace ub:=Zb (ub.out.below f);replace vb:=Zb (vb.out.below f);replace af:=Zb (af.out.below f);replace bf:=Zb (bf.out.below f);replace tmf:=Zb (tmf.out.below f);have i1:=Gn j6 f;clear j6;replace a6:=Za f a6;replace a7:=Za f a7;replace a4:=Za f a4;replace a1:=Za f a1;replace a3:=Za f a3;replace a0:=Za f a0;replace Y:=Za f Y;replace a5:=Za f a5;replace a9:=Za f a9;replace J:=Za f J;replace U:=Za f U;replace I:=Za f I;replace a2:=Za f a2;replace a8:=Za f a8;replace O:=Za f O;replace p0:=Za f p0;replace p1:=Za f p1;replace p2:=Za f p2;replace p3:=Za f p3;replace r0:=Za f r0;replace r1:=Za f r1;replace r2:=Za f r2;replace r3:=Za f r3;clear f;refine hK.out _ _ (λ_=>⟨a6,a7,a4,a1,a3,a0,Y,a5,a9,J,U,I,a2,a8,O,p0,p1,p2,p3,r0,r1,r2,r3⟩) ?_;clear hK K
     try simp only[Qc,Zf6,Zfl,Zfx,Gr,Gq,Gp]
     replace faf:=Zb faf;obtain⟨q7,h0⟩:=Gz o5.heap.size;obtain⟨t4,l1,e8,u⟩:=Zz (w:=o5) 32 #[.bool un,.slice uA uk uc,.bool um,.slice uB uj ud,.bool fan,.slice r5 fak fac,.bool fam,.slice q8 faj fad];rw[h0]at e8;refine wpAnyL_o 10 λK hK=>?_
     (try rw[Gx Gj]);go_simp;(try rw[h0]);(try rw[l1]);clear l1;replace b6:=Gm u b6;replace c4:=Gm u c4;replace b3:=Gm u b3;replace b4:=Gm u b4;replace b7:=Gm u b7;replace qt:=Gm u qt;replace ub:=Zb (ub.out.below u);replace vb:=Zb (vb.out.below u);replace af:=Zb (af.out.below u);replace bf:=Zb (bf.out.below u);replace tmf:=Zb (tmf.out.below u);replace faf:=Zb (faf.out.below u);have j1:=Gn i1 u;clear i1;replace a6:=Za u a6;replace a7:=Za u a7;replace a4:=Za u a4;replace a1:=Za u a1;replace a3:=Za u a3;replace a0:=Za u a0;replace Y:=Za u Y;replace a5:=Za u a5;replace a9:=Za u a9;replace J:=Za u J;replace U:=Za u U;replace I:=Za u I;replace a2:=Za u a2;replace a8:=Za u a8;replace O:=Za u O;replace p0:=Za u p0;replace p1:=Za u p1;replace p2:=Za u p2;replace p3:=Za u p3;replace r0:=Za u r0;replace r1:=Za u r1;replace r2:=Za u r2;replace r3:=Za u r3;clear u;replace e8:=Zb e8;replace h0:=Zb h0;refine hK.out _ _ (λ_=>⟨a6,a7,a4,a1,a3,a0,Y,a5,a9,J,U,I,a2,a8,O,p0,p1,p2,p3,r0,r1,r2,r3⟩) ?_;clear hK K
     try simp only[Qc,Zf6,Zfl,Zfx,Gr,Gq,Gp]
     have f3:=Zb (FL.pair2 e8.out ub.out faf.out);replace f3:=Zb f3;refine wpAnyL_o 11 λK hK=>?_
     (try rw[Gx Gj]);go_simp
     refine(Zj3 g (some ⟨q7,0,none⟩) 2 2 [Zdp qs x y i,qs[i]?.getD 0*tmQ x y i] t4 b7.out f3.out Gk (λk hk=>match k,hk with
      | 0,_=>s4.out
      | 1,_=>s3.out) (λk hk=>match k,hk with
      | 0,_=>Zfi
      | 1,_=>by show Sm (0+_);rw[Qo];exact s4.out
      | 2,_=>by show Sm (0+_+_);rw[Qo];exact s5.out)).mono ?_
     rintro e t0 ⟨h,o0,o4,n6,n7,m9,n3,n5,m7,rfl,m2⟩;replace b6:=Gm h b6;replace c4:=Gm h c4;replace b3:=Gm h b3;replace b4:=Gm h b4;replace b7:=Gm h b7;replace qt:=Gm h qt;replace ub:=Zb (ub.out.below h);replace vb:=Zb (vb.out.below h);replace af:=Zb (af.out.below h);replace bf:=Zb (bf.out.below h);replace tmf:=Zb (tmf.out.below h);replace faf:=Zb (faf.out.below h);replace e8:=Gm h e8;replace f3:=Zb (f3.out.below h);have h9:=Gn j1 h;clear j1;replace a6:=Za h a6;replace a7:=Za h a7;replace a4:=Za h a4;replace a1:=Za h a1;replace a3:=Za h a3;replace a0:=Za h a0;replace Y:=Za h Y;replace a5:=Za h a5;replace a9:=Za h a9;replace J:=Za h J;replace U:=Za h U;replace I:=Za h I;replace a2:=Za h a2;replace a8:=Za h a8;replace O:=Za h O;replace p0:=Za h p0;replace p1:=Za h p1;replace p2:=Za h p2;replace p3:=Za h p3;replace r0:=Za h r0;replace r1:=Za h r1;replace r2:=Za h r2;replace r3:=Za h r3;clear h;have e2:psQ [Zdp qs x y i,qs[i]?.getD 0*tmQ x y i] 2=Zdp qs x y (i+1):=(by show 0+_+_=_;rw[Qo];rfl);rw[e2]at m2;have f6:=m2;clear m2 e2;refine hK.out _ _ (λ_=>⟨a6,a7,a4,a1,a3,a0,Y,a5,a9,J,U,I,a2,a8,O,p0,p1,p2,p3,r0,r1,r2,r3⟩) ?_;clear hK K
     try simp only[Qc,Zf6,Zfl,Zfx,Gr,Gq,Gp]
     replace f6:=Zb f6;refine wpAnyL_o 21 λK hK=>?_
     (try rw[Gx Gj]);go_simp;refine(Zew g bn bm tn tm bA bB tA tB bk bc bj bd tk tc tj td (rs[i]?.getD 0) (tmQ x y i) t0 b7.out bf.out tmf.out s6.out s2.out).mono ?_;rintro e o3 ⟨f,fbn,t5,fbk,fbc,fbm,r9,fbj,fbd,rfl,fbf⟩;replace b6:=Gm f b6;replace c4:=Gm f c4;replace b3:=Gm f b3;replace b4:=Gm f b4;replace b7:=Gm f b7;replace qt:=Gm f qt;replace ub:=Zb (ub.out.below f);replace vb:=Zb (vb.out.below f);replace af:=Zb (af.out.below f);replace bf:=Zb (bf.out.below f);replace tmf:=Zb (tmf.out.below f);replace faf:=Zb (faf.out.below f);replace e8:=Gm f e8;replace f3:=Zb (f3.out.below f);replace f6:=Zb (f6.out.below f);have h8:=Gn h9 f;clear h9;replace a6:=Za f a6;replace a7:=Za f a7;replace a4:=Za f a4;replace a1:=Za f a1;replace a3:=Za f a3;replace a0:=Za f a0;replace Y:=Za f Y;replace a5:=Za f a5;replace a9:=Za f a9;replace J:=Za f J;replace U:=Za f U;replace I:=Za f I;replace a2:=Za f a2;replace a8:=Za f a8;replace O:=Za f O;replace p0:=Za f p0;replace p1:=Za f p1;replace p2:=Za f p2;replace p3:=Za f p3;replace r0:=Za f r0;replace r1:=Za f r1;replace r2:=Za f r2;replace r3:=Za f r3;clear f
     refine hK.out _ _ (λ_=>⟨a6,a7,a4,a1,a3,a0,Y,a5,a9,J,U,I,a2,a8,O,p0,p1,p2,p3,r0,r1,r2,r3⟩) ?_;clear hK K
     try simp only[Qc,Zf6,Zfl,Zfx,Gr,Gq,Gp]
     replace fbf:=Zb fbf;obtain⟨q9,g8⟩:=Gz o3.heap.size;obtain⟨q6,l4,h6,o⟩:=Zz (w:=o3) 32 #[.bool vn,.slice vA vk vc,.bool vm,.slice vB vj vd,.bool fbn,.slice t5 fbk fbc,.bool fbm,.slice r9 fbj fbd];rw[g8]at h6;refine wpAnyL_o 22 λK hK=>?_
     (try rw[Gx Gj]);go_simp;(try rw[g8]);(try rw[l4]);clear l4;replace b6:=Gm o b6;replace c4:=Gm o c4;replace b3:=Gm o b3;replace b4:=Gm o b4;replace b7:=Gm o b7;replace qt:=Gm o qt;replace ub:=Zb (ub.out.below o);replace vb:=Zb (vb.out.below o);replace af:=Zb (af.out.below o);replace bf:=Zb (bf.out.below o);replace tmf:=Zb (tmf.out.below o);replace faf:=Zb (faf.out.below o);replace e8:=Gm o e8;replace f3:=Zb (f3.out.below o);replace f6:=Zb (f6.out.below o);replace fbf:=Zb (fbf.out.below o);have i7:=Gn h8 o;clear h8;replace a6:=Za o a6;replace a7:=Za o a7;replace a4:=Za o a4;replace a1:=Za o a1;replace a3:=Za o a3;replace a0:=Za o a0;replace Y:=Za o Y;replace a5:=Za o a5;replace a9:=Za o a9;replace J:=Za o J;replace U:=Za o U;replace I:=Za o I;replace a2:=Za o a2;replace a8:=Za o a8;replace O:=Za o O;replace p0:=Za o p0;replace p1:=Za o p1;replace p2:=Za o p2;replace p3:=Za o p3;replace r0:=Za o r0;replace r1:=Za o r1;replace r2:=Za o r2;replace r3:=Za o r3;clear o;replace h6:=Zb h6;replace g8:=Zb g8;refine hK.out _ _ (λ_=>⟨a6,a7,a4,a1,a3,a0,Y,a5,a9,J,U,I,a2,a8,O,p0,p1,p2,p3,r0,r1,r2,r3⟩) ?_
     clear hK K
     try simp only[Qc,Zf6,Zfl,Zfx,Gr,Gq,Gp]
     have j0:=Zb (FL.pair2 h6.out vb.out fbf.out);replace j0:=Zb j0;refine wpAnyL_o 23 λK hK=>?_
     (try rw[Gx Gj]);go_simp
     refine(Zj3 g (some ⟨q9,0,none⟩) 2 2 [Zdp rs x y i,rs[i]?.getD 0*tmQ x y i] q6 b7.out j0.out Gk (λk hk=>match k,hk with
      | 0,_=>s8.out
      | 1,_=>s7.out) (λk hk=>match k,hk with
      | 0,_=>Zfi
      | 1,_=>by show Sm (0+_);rw[Qo];exact s8.out
      | 2,_=>by show Sm (0+_+_);rw[Qo];exact s9.out)).mono ?_
     rintro e v4 ⟨h,n9,m8,p6,m5,n8,o1,p8,o2,rfl,m4⟩;replace b6:=Gm h b6;replace c4:=Gm h c4;replace b3:=Gm h b3;replace b4:=Gm h b4;replace b7:=Gm h b7;replace qt:=Gm h qt;replace ub:=Zb (ub.out.below h);replace vb:=Zb (vb.out.below h);replace af:=Zb (af.out.below h);replace bf:=Zb (bf.out.below h);replace tmf:=Zb (tmf.out.below h);replace faf:=Zb (faf.out.below h);replace e8:=Gm h e8;replace f3:=Zb (f3.out.below h);replace f6:=Zb (f6.out.below h);replace fbf:=Zb (fbf.out.below h);replace h6:=Gm h h6;replace j0:=Zb (j0.out.below h);have n0:=Gn i7 h;clear i7;replace a6:=Za h a6;replace a7:=Za h a7;replace a4:=Za h a4;replace a1:=Za h a1;replace a3:=Za h a3;replace a0:=Za h a0;replace Y:=Za h Y;replace a5:=Za h a5;replace a9:=Za h a9;replace J:=Za h J;replace U:=Za h U;replace I:=Za h I;replace a2:=Za h a2;replace a8:=Za h a8;replace O:=Za h O;replace p0:=Za h p0;replace p1:=Za h p1;replace p2:=Za h p2;replace p3:=Za h p3;replace r0:=Za h r0;replace r1:=Za h r1;replace r2:=Za h r2;replace r3:=Za h r3;clear h;have e2:psQ [Zdp rs x y i,rs[i]?.getD 0*tmQ x y i] 2=Zdp rs x y (i+1):=(by show 0+_+_=_;rw[Qo];rfl);rw[e2]at m4;have l6:=m4;clear m4 e2;refine hK.out _ _ (λ_=>⟨a6,a7,a4,a1,a3,a0,Y,a5,a9,J,U,I,a2,a8,O,p0,p1,p2,p3,r0,r1,r2,r3⟩) ?_;clear hK K
     try simp only[Qc,Zf6,Zfl,Zfx,Gr,Gq,Gp]
     replace l6:=Zb l6;obtain⟨z0,z1,z2,z3,z4,z5,z6,z7⟩:=b3.out.four;obtain⟨Y3,i4,i8,h7,g7,g4,-⟩:=Zm o0 o4 n6 n7 m9 n3 n5 m7 n0.out Gk b3.out;have e9:=g4 _ _ _ Gk b4.out;have j3:=g4 _ _ _ Gk b6.out;have i0:=g4 _ _ _ Gk c4.out;refine Zr (i:=24) rfl Gj Gj (λK hK=>?_);go_simp;(try rw[i4]);refine hK.out _ _ ?_;clear hK K i4 z0 z1 z2 z3 z4 z5 z6 z7
     try simp only[Qc,Zf6,Zfl,Zfx,Gr,Gq,Gp]
     obtain⟨z0,z1,z2,z3,z4,z5,z6,z7⟩:=e9.four;obtain⟨Y4,i2,f0,h5,f9,g5,-⟩:=Zm n9 m8 p6 m5 n8 o1 p8 o2 i8 Gk e9;have uY:=Zb (Fr.keep (Fr.keep f6.out g7) f9);have vY:=Zb (Fr.keep (Fr.keep l6.out g7) f9);have k8:=Zb (g5 _ _ _ Gk h7);have i6:=Zb (g5 _ _ _ Gk j3);have j4:=Zb (g5 _ _ _ Gk i0);refine Zr (i:=25) rfl Gj Gj (λK hK=>?_);go_simp;(try rw[i2]);refine hK.out _ _ ?_;clear hK K i2 z0 z1 z2 z3 z4 z5 z6 z7
     try simp only[Qc,Zf6,Zfl,Zfx,Gr,Gq,Gp]
     refine wpAnyL_fin ?_;replace h5:=Zb h5;replace f0:=Zb f0;clear g7 g4 f9 g5 e9 j3 i0 h7 a6 a7 a4 a1 a3 a0 Y a5 a9 J U I a2 a8 O p0 p1 p2 p3 r0 r1 r2 r3;go_wp2_with fail
     go_roundg (T-(i+1))
     case measure=>omega
     case rel=>exact⟨i+1,o0,o4,n6,n7,m9,n3,n5,m7,n9,m8,p6,m5,n8,o1,p8,o2,by omega,by go_num,i6.out,j4.out,k8.out,uY.out,h5.out,vY.out,f0.out⟩
def Zds(t x:Int):Nat->Int
 | 0=>t
 | n+1=>Zds t x n*x
def tmZ(x y:Int)(i:Nat):Int:=Zds (Zds 1 x (Z6 i 0)) y (Z6 i 1)
theorem Zj8{t x:Int}{T:Nat}(ht:t.natAbs<=T)(hx:x.natAbs<=8192):∀ n,(Zds t x n).natAbs<=T*8192^n
 | 0=>by show t.natAbs<=T*8192^0;simpa using ht
 | n+1=>by
  show (Zds t x n*x).natAbs<=_;rw[Qp,Nat.pow_succ,<- Nat.mul_assoc];exact QD (Zj8 ht hx n) hx
theorem Zsl{a:Nat}(h:a<=3):8192^a<=549755813888:=by
 rcases a with _|_|_|_|a;decide;decide;decide;decide;omega
theorem Zu3{i:Nat}(h:i<10):Z6 i 0+Z6 i 1<=3:=by
 have k:∀ i,i<10->Z6 i 0+Z6 i 1<=3:=Gi;exact k i h
theorem Zsx{x y:Int}(hx:x.natAbs<=8192)(hy:y.natAbs<=8192){i:Nat}(hi:i<10){b:Nat}(hb:b<=Z6 i 1):(Zds (Zds 1 x (Z6 i 0)) y b).natAbs<=549755813888:=by
 have h1:=Zj8 (t:=1) (T:=1) Gi hx (Z6 i 0);rw[Nat.one_mul]at h1;have h2:=Zj8 h1 hy b;rw[<- Nat.pow_add]at h2;have:=Zu3 hi;exact Qy h2 (Zsl Gk)
theorem Zwl{x:Int}(hx:x.natAbs<=8192){a:Nat}(ha:a<=3):(Zds 1 x a).natAbs<=549755813888:=by
 have h1:=Zj8 (t:=1) (T:=1) Gi hx a;rw[Nat.one_mul]at h1;exact Qy h1 (Zsl ha)
theorem Zun(a:Addr)(n c:Nat)(l:List Int)(w:World)(h:LimI w (some a) n c l)(hn9:n<=1000000000) :
    Calls Tryz.prog 84 #[.slice (some a) n c] w λe w'=>∃ v,e=.returned v/\OwnI 2 w' w.heap.size v l/\Below w.heap.size w w':=by
 obtain⟨i0,hi,C,E,o⟩:=info_parts Zu8;have hr:=h.reads;have hl:=Zb h.len;have hI:∀ x ∈ l,I64 x:=h.2.2.2.1;have O:=h.2.1;have u:=h.2.2.1;unfold maxLen at u;clear h;have J:∀ W,(binOp BinOp.eql 63 (.slice (some a) n c) (.slice none 0 0)).run Tryz.prog W=.ok (.bool false) W:=λ_=>by kernel_rfl
 go_in;go_wp2_with (go_loud (at_builtin;refine Zp _ rfl (.tmp 5) (.tmp 6) 63 rfl w.heap.size 2 i0 _ 1 8 Tryz.underlying63 hi C E o rfl Gk (.slice (some ⟨w.heap.size,0,none⟩) 0 0) 0 [] rfl (Zhh _ _ _) _ (some a) n c (l.map intv) rfl (by exact hr.alloc (Qf _) _) (Zef _) (by simp only[maxLen];omega) Gk Gh ?_;intro v1 w1 f bM I));go_ret;have h2:OwnI 2 w1 w.heap.size v1 ([]++l):=OwnI.append (l:=[]) rfl hl.out.symm f Gh hI;exact FD
theorem Zsq{x:Int}(h:x.natAbs<=9000000000000000000):wrap64 x=x:=by unfold wrap64;omega
def powCs:List Value:=(QN 20).map λj=>.int .i64 (Z6 (j/2) (j%2))
theorem Zwc{w:World}(h:PowG w):w.rangeAt 0 0 powCs:=λj v hj=>by
 unfold powCs at hj;rw[Qd]at hj
 have e:j<20:=by
  rcases Qt j 20 with h'|h';exact h';rw[Qe (by simpa using h')]at hj;cases hj
 rw[Ql e]at hj;simp only[QB,Option.some.injEq]at hj;have:=h (j/2) (j%2) Gk Gk;rw[<- hj,Nat.zero_add];rw[show j/2*2+j%2=j by omega]at this;exact this
theorem Zre{r:Nat}(hr:r<10):powCs.toArray.extract (r*2) (r*2+2)=#[.int .i64 (Z6 r 0),.int .i64 (Z6 r 1)]:=by
 have hc:r=0 \/ r=1 \/ r=2 \/ r=3 \/ r=4 \/ r=5 \/ r=6 \/ r=7 \/ r=8 \/ r=9:=Gk;rcases hc with rfl|rfl|rfl|rfl|rfl|rfl|rfl|rfl|rfl|rfl <;> rfl
theorem index10(r:Nat)(w:World)(hr:r<10):(Instr.index 110 (.agg powCs.toArray) (.int .i64 r)).run Tryz.prog w=.ok (.agg #[.int .i64 (Z6 r 0),.int .i64 (Z6 r 1)]) w:=by
 have hu:Tryz.prog.underlying 110=some (.array 10 109):=Gj;have hs:∀ w,(sizeOf 109).run Tryz.prog w=.ok 2 w:=λw=>by simp[go_sem]
 have ha:∀ w,(isAgg 109).run Tryz.prog w=.ok true w:=λw=>by simp[go_sem]
 unfold Instr.index;simp only[asIntOf,Sem.run_bind,Sem.run_pure,Result.andThen_ok,run_underlying hu];rw[Gx ⟨by omega,by omega⟩];simp only[Sem.run_bind,hs,Result.andThen_ok,part,ha,QH];rw[<- Zre hr];simp[hs]
theorem Zli{ops:Array Oper}{rest:List Oper}{op:Oper}{a:Act}{w:World}{Q:Exit->Act->World->Prop}(hgd:op.guard=none)(x y:Operand)(ho:op.op=.index 110 x y)(r:Nat)(hx:a.eval x=.agg powCs.toArray)(hy:a.eval y=.int .i64 r)(hr:r<10)
    (h:wpList Tryz.prog ops Q rest (a.put op.dst (.agg #[.int .i64 (Z6 r 0),.int .i64 (Z6 r 1)])) w):wpList Tryz.prog ops Q (op::rest) a w:=
 wpList_plain hgd λ_ hK=>by
  unfold Oper.wp execOp;simp only[ho,hx,hy,index10 r w hr,Sem.run_bind,Sem.run_pure,Result.andThen_ok];exact hK _ _ h
theorem und_pow:∃ d,Tryz.prog.underlying 110=some d/\d.isRow=true:=⟨(Tryz.prog.underlying 110).getD (.struct #[]),by kernel_rfl,by kernel_rfl⟩
theorem Zvx:(Tryz.prog.info? 110).map (·.size)=some 20:=by kernel_rfl
@[local go_sem] theorem slice_ten (g T:Nat) (hT:T<=10) (w:World):(Instr.sliceAt 132 (.pointer (some ⟨g,0,none⟩)) none (some (.int .i64 T)) none).run Tryz.prog w=.ok (.slice (some ⟨g,0,none⟩) T 10) w:=by
 have h1:Tryz.prog.underlying 132=some (.array (Tryz.prog.arrayLen 132) (Tryz.prog.elem 132)):=Gj;have h2:Tryz.prog.arrayLen 132=10:=Gj;rw[run_sliceAt_array_h w 132 ⟨g,0,none⟩ h1 .i64 (T:Int) Gk (by rw[h2];omega),h2];simp[slicedAt,go_sem]
def Zi5(x y:Int)(T:Nat):List Int:=(QN T).map (tmZ x y)
theorem Zux{x y:Int}{T j:Nat}(h:j<T):(Zi5 x y T)[j]?=some (tmZ x y j):=by
 unfold Zi5;rw[Qd,Ql h];rfl
theorem Zpr(x y:Int)(T:Nat):(Zi5 x y T).length=T:=by simp[Zi5]
theorem Zu9{x y:Int}(hx:x.natAbs<=8192)(hy:y.natAbs<=8192){i:Nat}(hi:i<10):(tmZ x y i).natAbs<=549755813888:=Zsx hx hy hi (Qf _)
theorem Zwt{x y:Int}(hx:x.natAbs<=8192)(hy:y.natAbs<=8192){T:Nat}(hT:T<=10):∀ z ∈ Zi5 x y T,I64 z:=λz hz=>by
 obtain⟨j,hj,rfl⟩:=List.mem_map.1 hz;have:=Zu9 hx hy (i:=j) (by have:=List.mem_range.1 hj;omega);unfold I64;omega
theorem lim_tms{w:World}{g:Nat}{vs:Array Value}{x y:Int}{T:Nat}(hT:T<=10)(hx:x.natAbs<=8192)(hy:y.natAbs<=8192)(hb:Blk w g 132 vs)(h:∀ j,j<10->vs[j]?=some (.int .i64 (tmZ x y j))):LimI w (some ⟨g,0,none⟩) T 10 (Zi5 x y T):=
 ⟨Zpr _ _ _,hT,by unfold maxLen;omega,Zwt hx hy hT,λ_=>⟨g,0,rfl,λk hk=>by
  rw[Nat.zero_add,hb.cell,h k Gk,Zux hk];rfl⟩⟩
theorem row_ok(x y:Int)(T:Nat)(w:World)(hT:T<=10)(hx:x.natAbs<=8192)(hy:y.natAbs<=8192)(hg:PowG w) :
    Calls Tryz.prog 59 #[.int .i64 x,.int .i64 y,.int .i64 T] w λe w'=>Below w.heap.size w w'/\∃ v g,w.heap.size<=g/\e=.returned v/\OwnI 2 w' g v (Zi5 x y T):=by
 obtain⟨V,hV,q,hb⟩:=Zz (w:=w) 132 #[.int .i64 0,.int .i64 0,.int .i64 0,.int .i64 0,.int .i64 0,.int .i64 0,.int .i64 0,.int .i64 0,.int .i64 0,.int .i64 0];obtain⟨g,O⟩:=Gz w.heap.size;rw[O]at q;have a2:=Zb (Zwc (hg.below hb));replace hb:=Zb hb;replace q:=Zb q;clear hg;go_in;obtain⟨dd,J,a4⟩:=und_pow;replace J:=Zb J;go_wp2_with (refine wpList_load_mid rfl 110 _ rfl 0 0 rfl powCs dd a2.out J.out a4 (by exact Zvx) ?_);(try rw[O]);(try rw[hV]);clear hV;(try go_wp2_with fail);clear a2
 go_loopg [11] 10 (λk iv wr=>∃ (i:Nat) (vs:Array Value),i+k=10/\iv=.int .i64 i/\Blk wr g 132 vs/\vs.size=10/\(∀ j,j<i->vs[j]?=some (.int .i64 (tmZ x y j)))/\Below w.heap.size w wr)
 case atStart=>exact⟨0,_,by omega,rfl,q.out,rfl,λj hj=>absurd hj (Nat.not_lt_zero j),hb.out⟩
 case round =>
  clear q hb;obtain⟨i,vs,b6,rfl,q,a9,o,hB⟩:=hrel;obtain⟨wA,rfl⟩:=Gy wr;replace q:=Zb q;replace hB:=Zb hB;replace o:=Zb o;cases gk with
  | zero =>
   obtain rfl:i=10:=Gk;have lim:=lim_tms hT hx hy q.out o.out;go_wp2_with fail;refine(Zun _ _ _ _ _ lim Gk).mono ?_;rintro e w9 ⟨v,rfl,ho,a5⟩;go_wp2_with fail;go_ret;exact⟨Gs hB.out a5,v,wA.heap.size,hB.out.size,rfl,ho⟩
  | succ gk' =>
   obtain rfl:gk'=10-(i+1):=Gk;have h:i<10:=Gk;have bI:(i:Int)<10:=Gk;obtain⟨gp,a0⟩:=Gz wA.heap.size;obtain⟨V,hV,qp,U⟩:=Zz (w:=wA) 109 #[.int .i64 (Z6 i 0),.int .i64 (Z6 i 1)];rw[a0]at qp;replace qp:=Zb qp;have qV:=Gm U q;have a7:=Gn hB U;have b3:=q.out.lt;have gne:g≠gp:=Gk;have p0:V.cell? ⟨gp,0,none⟩=some (.int .i64 (Z6 i 0)):=qp.out.cell 0;have p1:V.cell? ⟨gp,1,none⟩=some (.int .i64 (Z6 i 1)):=qp.out.cell 1;obtain⟨v0,a8⟩:∃ v0,vs[i]?=some v0:=⟨_,Array.getElem?_eq_getElem Gk⟩;have c0:V.cell? ⟨g,i,none⟩=some v0:=(qV.out.cell i).trans a8;have f0:=qV.out.frozen i;clear q hB U;go_wp2_with (refine Zli rfl _ _ rfl i rfl rfl h ?_);(try rw[a0]);(try rw[hV]);clear hV;(try go_wp2_with fail);have hs:w.heap.size<=g:=by rw[O];exact Qf _
   have E:∀ u,(vs.setIfInBounds i u)[i]?=some u:=λu=>by rw[Array.getElem?_setIfInBounds_self,Gx Gk]
   have C:∀ u v,(vs.setIfInBounds i u).setIfInBounds i v=vs.setIfInBounds i v:=λu v=>by
    apply Array.ext_getElem?;intro j;simp only[Qv,Array.size_setIfInBounds]
    split <;> rfl
   have b8:=Zka (k:=0) h Gi;have b7:=Zka (k:=1) h Gi;replace C:=Zb C;clear c0 f0 p0 p1
   go_loopg [19] (Z6 i 0) (λk iv wr=>∃ (a:Nat),a+k=(Z6 i 0)/\iv=.int .i64 a/\Blk wr g 132 (vs.setIfInBounds i (.int .i64 (Zds 1 x a)))/\Blk wr gp 109 #[.int .i64 (Z6 i 0),.int .i64 (Z6 i 1)]/\Below w.heap.size w wr)
   case atStart=>exact⟨0,by omega,rfl,qV.out.set_ i _,qp.out.far (Qx gne) _,a7.out.setCell (p:=⟨g,i,none⟩) hs _⟩
   case round =>
    obtain⟨a,a6,rfl,qa,qb,f⟩:=hrel;obtain⟨w6,rfl⟩:=Gy wr;have c1:w6.cell? ⟨g,i,none⟩=some (.int .i64 (Zds 1 x a)):=(qa.cell i).trans (E _);have f1:=qa.frozen i;have p0:w6.cell? ⟨gp,0,none⟩=some (.int .i64 (Z6 i 0)):=qb.cell 0;have p1:w6.cell? ⟨gp,1,none⟩=some (.int .i64 (Z6 i 1)):=qb.cell 1;replace qa:=Zb qa;replace qb:=Zb qb;replace f:=Zb f;cases gk with
    | succ gk0 =>
     obtain rfl:gk0=(Z6 i 0)-(a+1):=Gk;have b1:decide ((a:Int)<(((Z6 i 0):Nat):Int))=true:=by simp;omega
     have b5:(a:Int)<(((Z6 i 0):Nat):Int):=Gk;have Y:(Zds 1 x (a+1)).natAbs<=549755813888:=Zwl hx Gk
     have a1:wrap64 (Zds 1 x a*x)=Zds 1 x (a+1):=Zsq (by
      show (Zds 1 x (a+1)).natAbs<=_;omega)
     clear Y;go_wp2_with fail
     go_roundg ((Z6 i 0)-(a+1))
     case measure=>omega
     case rel=>exact⟨a+1,by omega,by go_num,(by have:=qa.out.set_ i (.int .i64 (Zds 1 x (a+1)));rw[C.out]at this;exact this),qb.out.far (Qx gne) _,f.out.setCell (p:=⟨g,i,none⟩) hs _⟩
    | zero =>
     obtain rfl:a=(Z6 i 0):=Gk;have a3:decide ((((Z6 i 0):Nat):Int)<(((Z6 i 0):Nat):Int))=false:=Gh;go_wp2_with fail;clear c1 f1 p0 p1 a3
     go_loopg [30] (Z6 i 1) (λk iv wr=>∃ (a:Nat),a+k=(Z6 i 1)/\iv=.int .i64 a/\Blk wr g 132 (vs.setIfInBounds i (.int .i64 (Zds (Zds 1 x (Z6 i 0)) y a)))/\Blk wr gp 109 #[.int .i64 (Z6 i 0),.int .i64 (Z6 i 1)]/\Below w.heap.size w wr)
     case atStart=>exact⟨0,by omega,rfl,qa.out,qb.out,f.out⟩
     case round =>
      obtain⟨a,a6,rfl,qa,qb,f⟩:=hrel;obtain⟨I,rfl⟩:=Gy wr;have c1:I.cell? ⟨g,i,none⟩=some (.int .i64 (Zds (Zds 1 x (Z6 i 0)) y a)):=(qa.cell i).trans (E _);have f1:=qa.frozen i;have p0:I.cell? ⟨gp,0,none⟩=some (.int .i64 (Z6 i 0)):=qb.cell 0;have p1:I.cell? ⟨gp,1,none⟩=some (.int .i64 (Z6 i 1)):=qb.cell 1;replace qa:=Zb qa;replace qb:=Zb qb;replace f:=Zb f;cases gk with
      | succ gk0 =>
       obtain rfl:gk0=(Z6 i 1)-(a+1):=Gk;have b2:decide ((a:Int)<(((Z6 i 1):Nat):Int))=true:=by simp;omega
       have b4:(a:Int)<(((Z6 i 1):Nat):Int):=Gk;have Y:(Zds (Zds 1 x (Z6 i 0)) y (a+1)).natAbs<=549755813888:=Zsx hx hy h Gk
       have a1:wrap64 (Zds (Zds 1 x (Z6 i 0)) y a*y)=Zds (Zds 1 x (Z6 i 0)) y (a+1):=Zsq (by
        show (Zds (Zds 1 x (Z6 i 0)) y (a+1)).natAbs<=_;omega)
       clear Y;go_wp2_with fail
       go_roundg ((Z6 i 1)-(a+1))
       case measure=>omega
       case rel=>exact⟨a+1,by omega,by go_num,(by have:=qa.out.set_ i (.int .i64 (Zds (Zds 1 x (Z6 i 0)) y (a+1)));rw[C.out]at this;exact this),qb.out.far (Qx gne) _,f.out.setCell (p:=⟨g,i,none⟩) hs _⟩
      | zero =>
       obtain rfl:a=(Z6 i 1):=Gk;have b0:decide ((((Z6 i 1):Nat):Int)<(((Z6 i 1):Nat):Int))=false:=Gh;go_wp2_with fail
       go_roundg (10-(i+1))
       case measure=>omega
       case rel=>exact⟨i+1,_,by omega,by go_num,qa.out,by simpa using a9,λj hj=>(by
           rw[Qv];by_cases hji:i=j
           ·subst hji
            rw[Gx rfl,Gx Gk];rfl
           rw[Gw hji];exact o.out j Gk),f.out⟩
structure PE where
 x:Int
 y:Int
 xi:Int
 eta:Int
 wt:Int
def At5(w:World)(g o:Nat)(p:PE):Prop:=
 w.cell? ⟨g,o,none⟩=some (.int .i64 p.x)/\w.cell? ⟨g,o+1,none⟩=some (.int .i64 p.y)/\w.cell? ⟨g,o+2,none⟩=some (.int .i64 p.xi)/\w.cell? ⟨g,o+3,none⟩=some (.int .i64 p.eta)/\w.cell? ⟨g,o+4,none⟩=some (.int .i64 p.wt)
theorem At5.below{w w':World}{g o:Nat}{p:PE}(h:At5 w g o p)(hb:Below w.heap.size w w'):At5 w' g o p:=
 ⟨Za hb h.1,Za hb h.2.1,Za hb h.2.2.1,Za hb h.2.2.2.1,Za hb h.2.2.2.2⟩
def PaL(w:World)(A:Option Addr)(n c:Nat)(ps:List PE):Prop:=
 ps.length=n/\n<=c/\c<=maxLen/\(0<n->∃ g o,A=some ⟨g,o,none⟩/\∀ (k:Nat) (p:PE),ps[k]?=some p->At5 w g (o+k*5) p)
theorem PaL.below{w w':World}{A:Option Addr}{n c:Nat}{ps:List PE}(h:PaL w A n c ps)(hb:Below w.heap.size w w'):PaL w' A n c ps:=by
 obtain⟨h1,h2,h3,h4⟩:=h;refine⟨h1,h2,h3,λhn=>?_⟩;obtain⟨g,o,e,hc⟩:=h4 hn;exact⟨g,o,e,λk p hk=>(hc k p hk).below hb⟩
theorem PaL.at_{w:World}{A:Option Addr}{n c:Nat}{ps:List PE}(h:PaL w A n c ps){k:Nat}(hk:k<n):∃ g o p,A=some ⟨g,o,none⟩/\ps[k]?=some p/\At5 w g (o+k*5) p:=by
 obtain⟨h1,h2,h3,h4⟩:=h;obtain⟨g,o,e,hc⟩:=h4 Gk;obtain⟨p,hp⟩:∃ p,ps[k]?=some p:=⟨_,Qb Gk⟩;exact⟨g,o,p,e,hp,hc k p hp⟩
def Zc4(p:PE):Bool:=decide (-8192<=p.x) && decide (p.x<=8192) && decide (-8192<=p.y) && decide (p.y<=8192) && decide (-1099511627776<=p.xi) && decide (p.xi<=1099511627776) && decide (-1099511627776<=p.eta) && decide (p.eta<=1099511627776) && decide (1<=p.wt) && decide (p.wt<=1048576)
def n0I(rs:List RI):Nat:=(rs[0]?.map RI.n).getD 0
def Zmj(k:Nat)(r:RI):Bool:=decide (r.n=k) && !Zfw (-1099511627776) r.l
def Ziz(rs:List RI):Bool:=decide (200<rs.length) || rs.any RI.long
def Zpj(rs:List RI)(right weights:List Int):Bool:=
 !decide (n0I rs=0) && (decide (weights.length=rs.length) && (decide (right.length=rs.length) && (!Zfw 1 weights && (!Zfw (-1099511627776) right && rs.all (Zmj (n0I rs))))))
def Zdv(rs:List RI)(right weights:List Int):Int:=if Ziz rs=true then 4 else if Zpj rs right weights=true then 0 else 8
theorem Zmv{rs:List RI}{a b:List Int}(h:Ziz rs=true):Zdv rs a b=4:=by unfold Zdv;rw[Gx h]
theorem Zu0{rs:List RI}{a b:List Int}(h:Ziz rs=false)(h0:Zpj rs a b=false):Zdv rs a b=8:=by unfold Zdv;rw[Gw (by simp[h]),Gw (by simp[h0])]
theorem Zsw{rs:List RI}{a b:List Int}(h:Ziz rs=false)(h0:Zpj rs a b=true):Zdv rs a b=0:=by unfold Zdv;rw[Gw (by simp[h]),Gx h0]
theorem n0I_at{rs:List RI}{r:RI}(h:rs[0]?=some r):n0I rs=r.n:=by unfold n0I;rw[h];rfl
theorem ET{G:Prop}(h:G:=by
 go_in;go_wp2_with fail;refine(hC.out _ (by first|exact Below.refl _ _|exact Zg Below.refl _ _ _)).mono ?_;rintro e w1 ⟨rfl,ai⟩;have ab:Below w.heap.size w w1:=by first|exact ai|exact(Below.refl _ _).trans (ai.mono (Below.refl _ _).size)|exact(Zg (Below.refl _ _) _).trans (ai.mono (Below.refl _ _).size)
 clear ai;go_wp2_with fail;go_ret;exact⟨rfl,by first|exact ab|exact Zg ab _⟩):G:=h
theorem Em{G:Prop}(h:G:=by
 go_in;go_wp2_with fail;refine(hC.out _ (by first|exact Below.refl _ _|exact Zg Below.refl _ _ _)).mono ?_;rintro e w1 ⟨rfl,ai⟩;have ab:Below w.heap.size w w1:=by first|exact ai|exact(Below.refl _ _).trans (ai.mono (Below.refl _ _).size)|exact(Zg (Below.refl _ _) _).trans (ai.mono (Below.refl _ _).size)
 clear ai;have k1:=Za ab c0;go_wp2_with fail;go_ret;exact⟨rfl,by first|exact ab|exact Zg ab _⟩):G:=h
theorem Zjs(A B C:Option Addr)(n c m d k e0:Nat)(rs:List RI)(rr ws:List Int)(w:World)(h:MIL w A n c rs)(hr:LimI w B m d rr)(hw:LimI w C k e0 ws)(E:Int)(hE:Zdv rs rr ws=E) :
    Calls Tryz.prog 85 #[.slice A n c,.slice B m d,.slice C k e0] w λe w'=>e=.returned (.int .i64 E)/\Below w.heap.size w w':=by
 have hl:=h.1;have d0:=h.2.1;have c4:=h.2.2.1;have a9:=hr.1;have b1:=hw.1;have c2:=hr.nlen;have c6:=hw.nlen;unfold maxLen at c4 c2 c6;replace hE:=Zb hE;by_cases h12:200<n
 ·have t1:decide ((200:Int)<(n:Int))=true:=Gv Gk
  obtain rfl:E=4:=by rw[<- hE.out];exact Zmv (by unfold Ziz;rw[hl,Gv h12];rfl)
  go_in;go_wp2_with fail;go_ret;exact⟨rfl,by first|exact Qa _ _|exact Zg Qa _ _ _⟩
 have t1:decide ((200:Int)<(n:Int))=false:=Gu Gk;obtain⟨x,hx⟩:=Gz (rs.any RI.long);have a3:Ziz rs=x:=by unfold Ziz;rw[hl,Gu h12,hx];rfl
 have hC:=Zb (λW1 (hb:Below w.heap.size w W1)=>Zr1 A n c rs W1 (h.below hb) x hx);clear hx;replace a3:=Zb a3;cases x
 case true =>
  obtain rfl:E=4:=by rw[<- hE.out];exact Zmv a3.out
  clear h;exact ET
 have u:Zpj rs rr ws=false->E=8:=λhf=>by rw[<- hE.out];exact Zu0 a3.out hf
 have f:Zpj rs rr ws=true->E=0:=λhf=>by rw[<- hE.out];exact Zsw a3.out hf
 unfold Zpj at u f;rw[a9,b1,hl]at u f;replace u:=Zb u;replace f:=Zb f;clear hE;by_cases hn0:n=0
 ·subst hn0
  obtain rfl:E=8:=u.out (by
   have:rs=[]:=List.eq_nil_of_length_eq_zero hl;rw[this];rfl)
  clear h f u;exact ET
 have t2:((n:Int) == 0)=false:=by simp;omega
 have c8:decide (n=0)=false:=by simpa using hn0
 obtain⟨g,o,r0,rfl,b4,c0,b7⟩:=h.at_ (i:=0) Gk;have b6:=b7.nlen;unfold maxLen at b6;have Y:=n0I_at b4;clear b4 b7;rw[Nat.add_zero]at c0;have c9:=Zn c0;rw[Y]at u f;by_cases hz:r0.n=0
 ·obtain rfl:E=8:=u.out (by rw[Gv hz];rfl)
  have t3:((r0.n:Int) == 0)=true:=by simp[hz]
  have b5:decide (r0.n=0)=true:=by simpa using hz
  clear u f;replace h:=Zb h;replace Y:=Zb Y;replace hz:=Zb hz;exact Em
 have t3:((r0.n:Int) == 0)=false:=by simpa using hz
 have b5:decide (r0.n=0)=false:=by simpa using hz
 rw[b5]at u f;replace h:=Zb h;replace hl:=Zb hl;replace a9:=Zb a9;replace b1:=Zb b1;replace Y:=Zb Y;replace hz:=Zb hz;by_cases a1:k=n
 case neg =>
  have t4:((k:Int) == (n:Int))=false:=beq_eq_false_iff_ne.2 Gk;have b9:((k:Int) != (n:Int))=true:=by rw[bne,t4];rfl
  have b0:decide (k=n)=false:=by simpa using a1
  obtain rfl:E=8:=u.out (by rw[b0];rfl);clear u f;replace a1:=Zb a1;exact Em
 have t4:((k:Int) == (n:Int))=true:=beq_iff_eq.2 Gk;have b9:((k:Int) != (n:Int))=false:=by rw[bne,t4];rfl
 have b0:decide (k=n)=true:=by simpa using a1
 rw[QE,Qr,b0,Qr]at u f;replace a1:=Zb a1;by_cases a2:m=n
 case neg =>
  have t5:((m:Int) == (n:Int))=false:=beq_eq_false_iff_ne.2 Gk;have c3:((m:Int) != (n:Int))=true:=by rw[bne,t5];rfl
  have a6:decide (m=n)=false:=by simpa using a2
  obtain rfl:E=8:=u.out (by rw[a6];rfl);clear u f;replace a2:=Zb a2;exact Em
 have t5:((m:Int) == (n:Int))=true:=beq_iff_eq.2 Gk;have c3:((m:Int) != (n:Int))=false:=by rw[bne,t5];rfl
 have a6:decide (m=n)=true:=by simpa using a2
 rw[a6,Qr]at u f;replace a2:=Zb a2;obtain⟨xw,b3⟩:=Gz (Zfw 1 ws);have hW:=Zb (λW1 (hb:Below w.heap.size w W1)=>Zf2 C k e0 ws 1 W1 (hw.below hb) xw b3);rw[b3]at u f;clear b3 hw;cases xw
 case true =>
  obtain rfl:E=8:=u.out rfl;clear u f;go_in;go_wp2_with fail;refine(hC.out _ (by first|exact Qa _ _|exact Zg Qa _ _ _)).mono ?_;rintro e w1 ⟨rfl,ai⟩;have ab:Below w.heap.size w w1:=by first|exact ai|exact(Qa _ _).trans (ai.mono (Qa _ _).size)|exact(Zg (Qa _ _) _).trans (ai.mono (Qa _ _).size)
  clear ai;have k1:=Za ab c0;go_wp2_with fail;refine(hW.out _ (by first|exact ab|exact Zg ab _)).mono ?_;rintro e w2 ⟨rfl,J⟩;have I:Below w.heap.size w w2:=by first|exact J|exact(ab).trans (J.mono (ab).size)|exact(Zg (ab) _).trans (J.mono (ab).size)
  clear J;have k2:=Za I c0;go_wp2_with fail;go_ret;exact⟨rfl,by first|exact I|exact Zg I _⟩
 rw[QE,Qr]at u f;obtain⟨xr,b2⟩:=Gz (Zfw (-1099511627776) rr);have hR:=Zb (λW1 (hb:Below w.heap.size w W1)=>Zf2 B m d rr (-1099511627776) W1 (hr.below hb) xr b2);rw[b2]at u f;clear b2 hr;cases xr
 case true =>
  obtain rfl:E=8:=u.out rfl;clear u f;go_in;go_wp2_with fail;refine(hC.out _ (by first|exact Qa _ _|exact Zg Qa _ _ _)).mono ?_;rintro e w1 ⟨rfl,ai⟩;have ab:Below w.heap.size w w1:=by first|exact ai|exact(Qa _ _).trans (ai.mono (Qa _ _).size)|exact(Zg (Qa _ _) _).trans (ai.mono (Qa _ _).size)
  clear ai;have k1:=Za ab c0;go_wp2_with fail;refine(hW.out _ (by first|exact ab|exact Zg ab _)).mono ?_;rintro e w2 ⟨rfl,J⟩;have I:Below w.heap.size w w2:=by first|exact J|exact(ab).trans (J.mono (ab).size)|exact(Zg (ab) _).trans (J.mono (ab).size)
  clear J;have k2:=Za I c0;go_wp2_with fail;refine(hR.out _ (by first|exact I|exact Zg I _)).mono ?_;rintro e w3 ⟨rfl,U⟩;have a0:Below w.heap.size w w3:=by first|exact U|exact(I).trans (U.mono (I).size)|exact(Zg (I) _).trans (U.mono (I).size)
  clear U;have k3:=Za a0 c0;go_wp2_with fail;go_ret;exact⟨rfl,by first|exact a0|exact Zg a0 _⟩
 rw[QE,Qr]at u f;go_in;go_wp2_with fail;refine(hC.out _ (by first|exact Qa _ _|exact Zg Qa _ _ _)).mono ?_;rintro e w1 ⟨rfl,ai⟩;have ab:Below w.heap.size w w1:=by first|exact ai|exact(Qa _ _).trans (ai.mono (Qa _ _).size)|exact(Zg (Qa _ _) _).trans (ai.mono (Qa _ _).size)
 clear ai;have k1:=Za ab c0;go_wp2_with fail;refine(hW.out _ (by first|exact ab|exact Zg ab _)).mono ?_;rintro e w2 ⟨rfl,J⟩;have I:Below w.heap.size w w2:=by first|exact J|exact(ab).trans (J.mono (ab).size)|exact(Zg (ab) _).trans (J.mono (ab).size)
 clear J;have k2:=Za I c0;go_wp2_with fail;refine(hR.out _ (by first|exact I|exact Zg I _)).mono ?_;rintro e w3 ⟨rfl,U⟩;have a0:Below w.heap.size w w3:=by first|exact U|exact(I).trans (U.mono (I).size)|exact(Zg (I) _).trans (U.mono (I).size)
 clear U;have k3:=Za a0 c0;go_wp2_with fail;clear hC hW hR ab I k1 k2
 go_loopw [50] (λiv wr=>∃ i:Nat,i<=n/\iv=.int .i64 i/\Hid (∀ j e,j<i->rs[j]?=some e->Zmj r0.n e=true)/\Below w.heap.size w wr) (λiv _=>n-(intOf iv).toNat)
 case atStart=>exact⟨0,QI _,rfl,Zb (λj e hj=>by omega),(by first|exact a0|exact Zg a0 _)⟩
 case round =>
  clear k3 a0;obtain⟨i,d3,rfl,a5,O⟩:=hrel;have k0:=Za O c0;clear c0;by_cases hin:i<n
  case neg =>
   obtain rfl:n=i:=Gk;have c7:decide ((n:Int)<(n:Int))=false:=Gh
   obtain rfl:E=0:=by
    refine f.out ?_;rw[QL];intro e he;obtain⟨j,hj,c5⟩:=Qu he;exact a5.out j e (by rw[hl.out]at hj;exact hj) (by rw[Qb hj,c5])
   clear u;go_wp2_with fail;go_ret;exact⟨rfl,O⟩
  have c7:decide ((i:Int)<(n:Int))=true:=Gv Gk;obtain⟨g',o',r,hA,he,c1,hL⟩:=(h.out.below O).at_ hin;cases hA;have b8:=hL.nlen;unfold maxLen at b8
  have bad:Zmj r0.n r=false->E=8:=λhf=>u.out (by
   rw[List.all_eq_false];exact⟨r,Qj he,by rw[hf];decide⟩)
  have good:Zmj r0.n r=true->Hid (∀ j e,j<i+1->rs[j]?=some e->Zmj r0.n e=true):=λhf=>Zb (λj e' hj he'=>by
   rcases Qt j i with h'|h';exact a5.out j e' h' he';obtain rfl:j=i:=Gk;rw[he]at he';cases he';exact hf)
  replace bad:=Zb bad;replace good:=Zb good;replace he:=Zb he;clear u;by_cases hq:r.n=r0.n
  case neg =>
   have t6:((r.n:Int) == (r0.n:Int))=false:=beq_eq_false_iff_ne.2 Gk;have t7:((r.n:Int) != (r0.n:Int))=true:=by rw[bne,t6];rfl
   have a7:decide (r.n=r0.n)=false:=by simpa using hq
   obtain rfl:E=8:=bad.out (by unfold Zmj;rw[a7];rfl);clear hL f;go_wp2_with fail;go_ret;exact⟨rfl,by first|exact O|exact Zg O _⟩
  have t6:((r.n:Int) == (r0.n:Int))=true:=beq_iff_eq.2 Gk;have t7:((r.n:Int) != (r0.n:Int))=false:=by rw[bne,t6];rfl
  have a7:decide (r.n=r0.n)=true:=by simpa using hq
  obtain⟨x,hx⟩:=Gz (Zfw (-1099511627776) r.l);have hC:=Zb (λW1 (hb:Below wr.heap.size wr W1)=>Zf2 r.A r.n r.c r.l (-1099511627776) W1 (hL.below hb) x hx);replace hx:=Zb hx;replace hq:=Zb hq;clear hL;cases x
  ·have a8:=good.out (by unfold Zmj;rw[a7,hx.out];rfl)
   go_wp2_with fail;refine(hC.out _ (by first|exact Qa _ _|exact Zg (Qa _ _) _)).mono ?_;rintro e' w4 ⟨rfl,a4⟩;go_wp2_with fail
   go_roundw
   case rel=>exact⟨i+1,by omega,by go_num,a8,(by first|exact Gs O a4|exact(Zg O _).trans (a4.mono O.size))⟩
   case measure=>simp[intOf];omega
  obtain rfl:E=8:=bad.out (by unfold Zmj;rw[hx.out];simp);clear f;go_wp2_with fail;refine(hC.out _ (by first|exact Qa _ _|exact Zg (Qa _ _) _)).mono ?_;rintro e' w4 ⟨rfl,a4⟩;go_wp2_with fail;go_ret;exact⟨rfl,(by first|exact Gs O a4|exact(Zg O _).trans (a4.mono O.size))⟩
structure RZ where
 g:Nat
 q:List Int
def RZ.rs(r:RZ):RS:=⟨some ⟨r.g,0,none⟩,r.q.length,r.q.length⟩
def MatZ(tS tF:TypeId)(w:World)(go:Nat)(L:List RZ):Prop:=
 (∃ zs,Blk w go tS (Zao (L.map RZ.rs++zs)))/\(∀ r ∈ L,POwn tF w r.g r.q/\r.q.length<=maxLen)/\(go::L.map RZ.g).Nodup
section
variable{tS tF:TypeId}{w w':World}{go:Nat}{L:List RZ}
theorem MatZ.below(h:MatZ tS tF w go L)(hb:Below w.heap.size w w'):MatZ tS tF w' go L:=by
 exact Iv
theorem MatZ.cell(h:MatZ tS tF w go L){i:Nat}{r:RZ}(hr:L[i]?=some r):w.cell? ⟨go,i,none⟩=some (.slice (some ⟨r.g,0,none⟩) r.q.length r.q.length)/\w.frozen? ⟨go,i,none⟩=false:=by
 exact Fq
theorem MatZ.row(h:MatZ tS tF w go L){i:Nat}{r:RZ}(hr:L[i]?=some r):POwn tF w r.g r.q/\r.q.length<=maxLen:=h.2.1 r (Qj hr)
theorem MatZ.ne(h:MatZ tS tF w go L){i:Nat}{r:RZ}(hr:L[i]?=some r):go≠r.g:=λe=>by
 have:=(List.nodup_cons.1 h.2.2).1;exact this (List.mem_map.2 ⟨r,Qj hr,e.symm⟩)
theorem MatZ.ne2(h:MatZ tS tF w go L){i j:Nat}{r s:RZ}(hr:L[i]?=some r)(hs:L[j]?=some s)(hij:i≠j):r.g≠s.g:=λe=>by
 have hn:=(List.nodup_cons.1 h.2.2).2;have h1:(L.map RZ.g)[i]?=some r.g:=by rw[Qd,hr];rfl
 have h2:(L.map RZ.g)[j]?=some r.g:=by rw[Qd,hs,e];rfl
 exact hij ((List.getElem?_inj (by have:=(List.getElem?_eq_some_iff.1 h1).1;exact this) hn).1 (h1.trans h2.symm))
theorem MatZ.boxes(h:MatZ tS tF w go L):∀ k,(k=go \/ k ∈ L.map RZ.g)->∃ t cs,Blk w k t cs/\NoLimb cs:=by
 intro k hk;obtain⟨⟨zs,h1⟩,h2,-⟩:=h;rcases hk with rfl|hk;exact⟨tS,_,h1,Zcg _⟩;obtain⟨r,hr,rfl⟩:=List.mem_map.1 hk;exact(h2 r hr).1.box
theorem MatZ.set_(h:MatZ tS tF w go L){i:Nat}{r:RZ}(hr:L[i]?=some r){k:Nat}(hk:k<r.q.length){na:Bool}{A:Option Addr}{n c:Nat}{x:Int}(hf:Wd w na A n c x) :
    MatZ tS tF ((w.setCell ⟨r.g,k*2,none⟩ (.bool na)).setCell ⟨r.g,k*2+1,none⟩ (.slice A n c)) go (L.set i ⟨r.g,r.q.set k x⟩):=by
 have u:=h.ne hr;have C:=λ{j:Nat} {s:RZ} (hs:L[j]?=some s) (hij:j≠i)=>h.ne2 hs hr hij;have o:=h.row hr;have hi:=(List.getElem?_eq_some_iff.1 hr).1;obtain⟨⟨zs,h1⟩,h2,h3⟩:=h;refine⟨⟨zs,?_⟩,λs hs=>?_,?_⟩
 ·have e:(L.set i ⟨r.g,r.q.set k x⟩).map RZ.rs=L.map RZ.rs:=by
    rw[Qz];apply Qh;intro j;rw[Qi];by_cases hij:i=j
    ·subst hij
     rw[Gx rfl,Gx (by simpa using hi),Qd,hr];simp[RZ.rs]
    rw[Gw hij]
  rw[e];exact(h1.far u _).far u _
 ·obtain⟨j,hj,E⟩:=Qu hs
  have f:(L.set i ⟨r.g,r.q.set k x⟩)[j]?=some s:=by rw[Qb hj,E]
  rw[Qi]at f;by_cases hij:i=j
  ·subst hij
   rw[Gx rfl,Gx hi]at f;cases f;exact⟨o.1.set_ hk hf,by simpa using o.2⟩
  rw[Gw hij]at f;have:=h2 s (Qj f);exact⟨this.1.other o.1 (C f (Qx hij)) _ _ _ _ _,this.2⟩
 have e:(L.set i ⟨r.g,r.q.set k x⟩).map RZ.g=L.map RZ.g:=by
   rw[Qz];apply Qh;intro j;rw[Qi];by_cases hij:i=j
   ·subst hij
    rw[Gx rfl,Gx (by simpa using hi),Qd,hr];rfl
   rw[Gw hij]
 rw[e];exact h3
theorem MatZ.swap(h:MatZ tS tF w go L){i j:Nat}{r s:RZ}(hr:L[i]?=some r)(hs:L[j]?=some s) :
    MatZ tS tF ((w.setCell ⟨go,i,none⟩ (.slice (some ⟨s.g,0,none⟩) s.q.length s.q.length)).setCell ⟨go,j,none⟩ (.slice (some ⟨r.g,0,none⟩) r.q.length r.q.length)) go (Zae L i j):=by
 have hi:=(List.getElem?_eq_some_iff.1 hr).1;have hj:=(List.getElem?_eq_some_iff.1 hs).1;have C:=λ{j:Nat} {s:RZ} (hs:L[j]?=some s)=>h.ne hs;obtain⟨⟨zs,h1⟩,h2,h3⟩:=h;have o:=h1.set_ i (.slice (some ⟨s.g,0,none⟩) s.q.length s.q.length);have J:NoLimb ((Zao (L.map RZ.rs++zs)).setIfInBounds i (.slice (some ⟨s.g,0,none⟩) s.q.length s.q.length)):=Zqx (Zcg _) i (λx=>by simp);have O:=o.set_ j (.slice (some ⟨r.g,0,none⟩) r.q.length r.q.length)
 have hk:∀ (A:Option Addr) (n c:Nat) (l:List Nat),Lim w A n c l->Lim ((w.setCell ⟨go,i,none⟩ (.slice (some ⟨s.g,0,none⟩) s.q.length s.q.length)).setCell ⟨go,j,none⟩ (.slice (some ⟨r.g,0,none⟩) r.q.length r.q.length)) A n c l:=
  λA n c l hl=>(hl.set_box h1 (Zcg _) _ _).set_box o J _ _
 refine⟨⟨zs,?_⟩,λx hx=>?_,?_⟩
 ·have e:Zao ((Zae L i j).map RZ.rs++zs)=((Zao (L.map RZ.rs++zs)).setIfInBounds i (.slice (some ⟨s.g,0,none⟩) s.q.length s.q.length)).setIfInBounds j (.slice (some ⟨r.g,0,none⟩) r.q.length r.q.length):=by
    have e1:=Zev (es:=L.map RZ.rs++zs) (i:=i) s.rs;have e2:=Zev (es:=(L.map RZ.rs++zs).set i s.rs) (i:=j) r.rs;simp only[RZ.rs]at e1 e2;rw[e1,e2,Zvm hr hs];congr 1;rw[Qz,Qz,QF _ _ (by simpa using hi),QF _ _ (by simpa using hj)];rfl
  rw[e];exact O
 ·have f:=Zhs L i j x hx
  obtain⟨es,q1,q2,q3⟩:=(h2 x f).1;obtain⟨k,I,E⟩:=Qu f;have u:x.g≠go:=Qx (C (j:=k) (s:=x) (by rw[Qb I,E]));exact⟨⟨es,(q1.far u _).far u _,λe he=>⟨hk _ _ _ _ (q2 e he).1,(q2 e he).2⟩,q3⟩,(h2 x f).2⟩
 rw[List.nodup_cons]at h3 ⊢;rw[Zje];refine⟨λhm=>h3.1 (Zhs _ _ _ _ hm),Zqj h3.2 (by simpa using hi) (by simpa using hj)⟩
theorem MatZ.keptG{G:Nat->Prop}(h:MatZ tS tF w go L)(hk:Kept G w w')(hg:¬ G go)(hgs:∀ r ∈ L,¬ G r.g)(hG:∀ k,G k->∃ t cs,Blk w k t cs/\NoLimb cs):MatZ tS tF w' go L:=by
 obtain⟨⟨zs,h1⟩,h2,h3⟩:=h;refine⟨⟨zs,hk.blk h1 hg⟩,λr hr=>⟨?_,(h2 r hr).2⟩,h3⟩;obtain⟨es,q1,q2,q3⟩:=(h2 r hr).1;exact⟨es,hk.blk q1 (hgs r hr),λe he=>⟨hk.lim (q2 e he).1 hG,(q2 e he).2⟩,q3⟩
end
def Zat(L:List RZ)(i:Nat):List Int:=(L[i]?.map RZ.q).getD []
theorem Zgn{L:List RZ}{i:Nat}{r:RZ}(h:L[i]?=some r):Zat L i=r.q:=by unfold Zat;rw[h];rfl
theorem Ziy(L:List RZ)(i j:Nat):Zag (L.map RZ.q) i j=(Zat L i)[j]?.getD 0:=by unfold Zag Zat;rw[Qd]
theorem Zi8(L:List RZ)(i:Nat):Zat L i=(L.map RZ.q)[i]?.getD []:=by unfold Zat;rw[Qd]
theorem Zs9{L:List RZ}{i j:Nat}{r:RZ}(hi:i<L.length):Zat (L.set i r) j=if j=i then r.q else Zat L j:=by
 unfold Zat;rw[Qi];by_cases h:i=j;subst h;rw[Gx rfl,Gx hi,Gx rfl];rfl;rw[Gw h,Gw (Qx h)]
theorem Zvq{L:List RZ}{R:List (List Int)}(hl:L.length=R.length)(h:∀ i,i<R.length->Zat L i=R[i]?.getD []):L.map RZ.q=R:=by
 apply Qh;intro i;rw[Qd];by_cases hi:i<R.length
 ·have:=h i hi
  unfold Zat at this;rw[Qb (show i<L.length by omega),Qb hi]at this ⊢;simp only[QB,Qs]at this ⊢;rw[this]
 rw[Qe Gk,Qe Gk];rfl
theorem Zqt{R:List (List Int)}{r col i:Nat}{last:Int}(hi:i<R.length):(Zde R r col last)[i]?.getD []=if i<=r then R[i]?.getD []else Zo2 (R[r]?.getD []) (R[i]?.getD []) col (Zag R r col) last:=by
 unfold Zde;rw[Qd,Ql hi];rfl
theorem rowZ_eq{p row q:List Int}{col:Nat}{piv last:Int}(hl:q.length=row.length)(h:∀ t,q[t]?.getD 0=if t<row.length then Int.fdiv (row[t]?.getD 0*piv-row[col]?.getD 0*p[t]?.getD 0) last else row[t]?.getD 0):q=Zo2 p row col piv last:=by
 apply Qh;intro t;unfold Zo2;rw[Qd];have:=h t;by_cases ht:t<row.length
 ·rw[Ql ht]
  rw[Qb (show t<q.length by omega)]at this ⊢;simp only[QB,Qs]at this ⊢;rw[this,Gx ht]
 rw[Qe Gk,Qe (l:=QN _) (by simpa using ht)];rfl
theorem Zur{row q:List Int}{k:Nat}{x:Int}{f:Nat->Int}(hl:q.length=row.length)(hkl:k<row.length)(hx:x=f k)(h:∀ t,q[t]?.getD 0=if t<k then f t else row[t]?.getD 0) :
    ∀ t,(q.set k x)[t]?.getD 0=if t<k+1 then f t else row[t]?.getD 0:=by
 intro t;rw[Qi];by_cases ht:k=t
 ·subst ht
  rw[Gx rfl,Gx Gk,Gx Gk,hx];rfl
 rw[Gw ht,h t];by_cases h1:t<k;rw[Gx h1,Gx Gk];rw[Gw h1,Gw Gk]
theorem IZ{G:Prop}(h:G:=by
 exact⟨cj,_,_,_,_,rfl,st.1 _ _ _ _ _ ea.out⟩):G:=h
theorem Zhd(na nb:Bool)(A B:Option Addr)(n c m d:Nat)(a b:Int)(w:World)(ha:Wd w na A n c a)(hb:Wd w nb B m d b)(hs:(a*b).natAbs<pw 4096) :
    Calls Tryz.prog 146 #[.agg #[.bool na,.slice A n c],.agg #[.bool nb,.slice B m d]] w (NumW w (a*b)):=by
 obtain⟨W0,u,f,⟨q0,q1,q2⟩,s0⟩:=Zda w 30 #[.bool na,.slice A n c] 30 #[.bool nb,.slice B m d] 30 #[.bool false,.slice none 0 0];have hA:=ha.below f;have hD:=hb.below f;have hC:=Zb (Zhx na nb A B n c m d a b W0 hA hD);clear ha hb hA hD;obtain⟨a0,a1,-⟩:=q0.two;obtain⟨b0,b1,-⟩:=q1.two;replace q2:=Zb q2;replace hs:=Zb hs;clear q0 q1;go_in;go_wp2_with fail;refine hC.out.mono ?_;rintro e w1 ⟨h,n2,A2,k2,c2,code,rfl,hR⟩;have hN:=hR.small hs.out;have o:=Gs f h;have s1:=h.size;have q3:=Zc h q2.out;clear h a0 a1 b0 b1 u hR hC q2;obtain⟨V,hV,C,qv,kW,kB,sV⟩:=Zap 30 #[.bool n2,.slice A2 k2 c2] o o.size;have q4:=kB _ _ _ q3;have ea:=Zb (kW _ _ _ _ _ hN);clear kW kB hN;obtain⟨v0,v1,v2,v3⟩:=qv.two;obtain⟨r0,r1,r2,r3⟩:=q4.two;go_wp2_with fail;obtain⟨X,hX,cj,q5,st⟩:=Zbt n2 A2 k2 c2 C Gk q4;(try rw[hX]);obtain⟨y0,y1,-⟩:=q5.two;refine bodyPost_ret (v:=.agg #[.bool n2,.slice A2 k2 c2]) (by simp[results,Tryz.results146,go_sem,y0,y1]) rfl ?_;exact IZ
theorem lsub_ok(na nb:Bool)(A B:Option Addr)(n c m d:Nat)(a b:Int)(w:World)(ha:Wd w na A n c a)(hb:Wd w nb B m d b)(hs:(a-b).natAbs<pw 4096) :
    Calls Tryz.prog 150 #[.agg #[.bool na,.slice A n c],.agg #[.bool nb,.slice B m d]] w (NumW w (a-b)):=by
 obtain⟨W0,u,f,⟨q0,q1,q2⟩,s0⟩:=Zda w 30 #[.bool na,.slice A n c] 30 #[.bool nb,.slice B m d] 30 #[.bool false,.slice none 0 0];have hA:=ha.below f;have hD:=hb.below f;have hC:=Zb (Zvp na nb A B n c m d a b W0 hA hD);clear ha hb hA hD;obtain⟨a0,a1,-⟩:=q0.two;obtain⟨b0,b1,-⟩:=q1.two;replace q2:=Zb q2;replace hs:=Zb hs;clear q0 q1;go_in;go_wp2_with fail;refine hC.out.mono ?_;rintro e w1 ⟨h,n2,A2,k2,c2,code,rfl,hR⟩;have hN:=hR.small hs.out;have o:=Gs f h;have s1:=h.size;have q3:=Zc h q2.out;clear h a0 a1 b0 b1 u hR hC q2;obtain⟨V,hV,C,qv,kW,kB,sV⟩:=Zap 30 #[.bool n2,.slice A2 k2 c2] o o.size;have q4:=kB _ _ _ q3;have ea:=Zb (kW _ _ _ _ _ hN);clear kW kB hN;obtain⟨v0,v1,v2,v3⟩:=qv.two;obtain⟨r0,r1,r2,r3⟩:=q4.two;go_wp2_with fail;obtain⟨X,hX,cj,q5,st⟩:=Zbt n2 A2 k2 c2 C Gk q4;(try rw[hX]);obtain⟨y0,y1,-⟩:=q5.two;refine bodyPost_ret (v:=.agg #[.bool n2,.slice A2 k2 c2]) (by simp[results,Tryz.results150,go_sem,y0,y1]) rfl ?_;exact IZ
theorem Znw(na nb:Bool)(A B:Option Addr)(n c m d:Nat)(a b:Int)(w:World)(ha:Wd w na A n c a)(hb:Wd w nb B m d b)(h0:b≠0) :
    Calls Tryz.prog 147 #[.agg #[.bool na,.slice A n c],.agg #[.bool nb,.slice B m d]] w (NumW w (Int.fdiv a b)):=by
 obtain⟨W0,E,h,⟨q0,q1,q2⟩,s0⟩:=Zda w 30 #[.bool na,.slice A n c] 30 #[.bool nb,.slice B m d] 30 #[.bool false,.slice none 0 0];have hA:=ha.below h;have hD:=hb.below h;have hC:=Zb (Zfc na nb A B n c m d a b W0 hA hD h0);clear ha hb hA hD;obtain⟨a0,a1,-⟩:=q0.two;obtain⟨b0,b1,-⟩:=q1.two;replace q2:=Zb q2;replace h0:=Zb h0;clear q0 q1;go_in;go_wp2_with fail;refine hC.out.mono ?_;rintro e w1 ⟨o,n2,A2,k2,c2,n3,A3,k3,c3,rfl,hN,-⟩;have u:=Gs h o;have s1:=o.size;have q3:=Zc o q2.out;clear o a0 a1 b0 b1 E hC q2;obtain⟨V,hV,I,qv,kW,kB,sV⟩:=Zap 30 #[.bool n2,.slice A2 k2 c2] u u.size;have q4:=kB _ _ _ q3;have ea:=kW _ _ _ _ _ hN;clear kW kB hN;obtain⟨V2,f,C,J,kW,kB,O⟩:=Zap 30 #[.bool n3,.slice A3 k3 c3] I Gk;replace q4:=kB _ _ _ q4;replace qv:=kB _ _ _ qv;replace ea:=Zb (kW _ _ _ _ _ ea);clear kW kB;obtain⟨v0,v1,v2,v3⟩:=qv.two;obtain⟨r0,r1,r2,r3⟩:=q4.two;rw[<- hV]at f;rw[<- f]at v0 v1 v2 v3 r0 r1 r2 r3;replace f:=Zb f;clear hV;go_wp2_with fail;(try rw[f.out]);obtain⟨X,hX,cj,q5,st⟩:=Zbt n2 A2 k2 c2 C Gk q4;(try rw[hX]);obtain⟨y0,y1,-⟩:=q5.two;refine bodyPost_ret (v:=.agg #[.bool n2,.slice A2 k2 c2]) (by simp[results,Tryz.results147,go_sem,y0,y1]) rfl ?_;exact IZ
theorem Ztm(neg:Bool)(A:Option Addr)(n c:Nat)(w:World)(hn:n<=1000000000)(b:Bool)(hb:((n:Int) == 0)=b) :
    Calls Tryz.prog 148 #[.agg #[.bool neg,.slice A n c]] w λe w'=>e=.returned (.bool b)/\Below w.heap.size w w':=by
 go_in;go_wp2_with fail;go_ret;exact⟨rfl,by go_grown⟩
attribute [local go_sem] Zf Oper.semAt_some
def Zb5(ws:List Int)(a b:Nat->Int):Nat->Int
 | 0=>0
 | i+1=>Zb5 ws a b i+(ws[i]?.getD 0)*(a i*b i)
def Zhj(v:Value)(z:Int)(w:World):Prop:=∃ na A n c,v=.agg #[.bool na,.slice A n c]/\Wd w na A n c z
def numT(v:Value)(z:Int)(w:World):Prop:=∃ na A n c,v=.tuple #[.agg #[.bool na,.slice A n c],.int .i64 0]/\Wd w na A n c z
theorem Zc9{v:Value}{z:Int}{w w':World}(hb:Below w.heap.size w w')(h:Zhj v z w):Zhj v z w':=by
 obtain⟨na,A,n,c,e,hf⟩:=h;exact⟨na,A,n,c,e,hf.below hb⟩
theorem Zrr{v:Value}{z:Int}{w w':World}(hb:Below w.heap.size w w')(h:numT v z w):numT v z w':=by
 obtain⟨na,A,n,c,e,hf⟩:=h;exact⟨na,A,n,c,e,hf.below hb⟩
def Zep(x a b s:Int)(i:Nat)(v:Value)(w:World):Prop:=
 if i=2 then Zhj v x w else if i=5 then v=.int .i64 a else if i=6 then Zhj v a w else if i=9 then v=.int .i64 b else if i=10 then Zhj v b w
 else if i=11 then Zhj v (a*b) w else if i=12 then Zhj v (x*(a*b)) w else if i=13 \/ i=14 then numT v (s+x*(a*b)) w else if i=15 then Zhj v (s+x*(a*b)) w else if i=16 then v=.int .i64 0 else True
theorem Zqs{x a b s:Int}{i:Nat}{v:Value}{w w':World}(hb:Below w.heap.size w w')(h:Zep x a b s i v w):Zep x a b s i v w':=by
 unfold Zep at h ⊢
 split at h
 rename_i e;rw[Gx e];exact Zc9 hb h;rename_i e;rw[Gw e];clear e
 split at h
 rename_i e;rw[Gx e];exact h;rename_i e;rw[Gw e];clear e
 split at h
 rename_i e;rw[Gx e];exact Zc9 hb h;rename_i e;rw[Gw e];clear e
 split at h
 rename_i e;rw[Gx e];exact h;rename_i e;rw[Gw e];clear e
 split at h
 rename_i e;rw[Gx e];exact Zc9 hb h;rename_i e;rw[Gw e];clear e
 split at h
 rename_i e;rw[Gx e];exact Zc9 hb h;rename_i e;rw[Gw e];clear e
 split at h
 rename_i e;rw[Gx e];exact Zc9 hb h;rename_i e;rw[Gw e];clear e
 split at h
 rename_i e;rw[Gx e];exact Zrr hb h;rename_i e;rw[Gw e];clear e
 split at h
 rename_i e;rw[Gx e];exact Zc9 hb h;rename_i e;rw[Gw e];clear e
 split at h
 rename_i e;rw[Gx e];exact h;rename_i e;rw[Gw e];trivial
def Zhp(B0:Nat)(q:Rat)(i:Nat)(v:Value)(w:World):Prop:=
 if i=1 then Zhj v 1 w else Zar B0 q 2 3 4 5 6 5 i v w
theorem Zru{B0:Nat}{q:Rat}{i:Nat}{v:Value}{w w':World}(hb:Below w.heap.size w w')(h:Zhp B0 q i v w):Zhp B0 q i v w':=by
 unfold Zhp at h ⊢
 split at h
 rename_i e;rw[Gx e];exact Zc9 hb h;rename_i e;rw[Gw e];exact Zgg hb h
theorem Zn6{z:Int}(h:I64 z):z.natAbs<=9223372036854775808:=by unfold I64 at h;omega
theorem big6:9223372036854775808*(9223372036854775808*9223372036854775808)*1000<pw 4096:=
 Qn (show _<pw 7 from by decide) (Zbm Gi)
theorem Zmt{a b:Int}(ha:I64 a)(hb:I64 b):(a*b).natAbs<=9223372036854775808*9223372036854775808:=by
 rw[Qp];exact QD (Zn6 ha) (Zn6 hb)
theorem Zjx{x a b:Int}(hx:I64 x)(ha:I64 a)(hb:I64 b):(x*(a*b)).natAbs<=9223372036854775808*(9223372036854775808*9223372036854775808):=by
 rw[Qp];exact QD (Zn6 hx) (Zmt ha hb)
theorem two_pw{a b:Int}(ha:I64 a)(hb:I64 b):(a*b).natAbs<pw 4096:=
 Qg (Zmt ha hb) (Nat.lt_trans Gi big6)
theorem Zwq{x a b:Int}(hx:I64 x)(ha:I64 a)(hb:I64 b):(x*(a*b)).natAbs<pw 4096:=
 Qg (Zjx hx ha hb) (Nat.lt_trans Gi big6)
theorem Zf1{l:List Int}(h:∀ x ∈ l,I64 x)(i:Nat):I64 (l[i]?.getD 0):=by
 rcases Qt i l.length with h1|h1;rw[Qb h1];exact h _ (QK _);rw[Qe h1];unfold I64;decide
theorem Zmz{ws:List Int}{a b:Nat->Int}(hw:∀ x ∈ ws,I64 x):∀ (i:Nat),(∀ j,j<i->I64 (a j)/\I64 (b j))->(Zb5 ws a b i).natAbs<=9223372036854775808*(9223372036854775808*9223372036854775808)*i
 | 0,_=>by simp[Zb5]
 | i+1,h=>by
  have h1:=Zmz hw i (λj hj=>h j Gk);have h2:=Zjx (Zf1 hw i) (h i Gk).1 (h i Gk).2;have h3:=Int.natAbs_add_le (Zb5 ws a b i) ((ws[i]?.getD 0)*(a i*b i));rw[Nat.mul_add,Nat.mul_one];show (Zb5 ws a b i+(ws[i]?.getD 0)*(a i*b i)).natAbs<=_;exact Qy h3 (Nat.add_le_add h1 h2)
theorem dotZ_pw{ws:List Int}{a b:Nat->Int}(hw:∀ x ∈ ws,I64 x){i:Nat}(hi:i<=1000)(h:∀ j,j<i->I64 (a j)/\I64 (b j)):(Zb5 ws a b i).natAbs<pw 4096:=
 Qg (Zmz hw i h) (Qg (Nat.mul_le_mul_left _ hi) big6)
theorem Wd.same{w:World}{na:Bool}{A:Option Addr}{n c:Nat}{y z:Int}(h:Wd w na A n c y)(e:y=z):Wd w na A n c z:=e▸h
theorem Zi3(z:Int):Rat.divInt z 1=(z:Rat):=by
 exact Ff
theorem dot2{x a b s:Int}{v:Value}{w:World}(h:Zep x a b s 2 v w):Zhj v x w:=h
theorem dot5{x a b s:Int}{v:Value}{w:World}(h:Zep x a b s 5 v w):v=.int .i64 a:=h
theorem dot6{x a b s:Int}{v:Value}{w:World}(h:Zep x a b s 6 v w):Zhj v a w:=h
theorem dot9{x a b s:Int}{v:Value}{w:World}(h:Zep x a b s 9 v w):v=.int .i64 b:=h
theorem dot10{x a b s:Int}{v:Value}{w:World}(h:Zep x a b s 10 v w):Zhj v b w:=h
theorem dot11{x a b s:Int}{v:Value}{w:World}(h:Zep x a b s 11 v w):Zhj v (a*b) w:=h
theorem dot12{x a b s:Int}{v:Value}{w:World}(h:Zep x a b s 12 v w):Zhj v (x*(a*b)) w:=h
theorem dot13{x a b s:Int}{v:Value}{w:World}(h:Zep x a b s 13 v w):numT v (s+x*(a*b)) w:=h
theorem dot14{x a b s:Int}{v:Value}{w:World}(h:Zep x a b s 14 v w):numT v (s+x*(a*b)) w:=h
theorem dot15{x a b s:Int}{v:Value}{w:World}(h:Zep x a b s 15 v w):Zhj v (s+x*(a*b)) w:=h
theorem dot16{x a b s:Int}{v:Value}{w:World}(h:Zep x a b s 16 v w):v=.int .i64 0:=h
theorem end1{B0:Nat}{q:Rat}{v:Value}{w:World}(h:Zhp B0 q 1 v w):Zhj v 1 w:=h
theorem Ea{G:Prop}(h:G:=by
 rintro e w5 ⟨ao,cb,A5,k5,c5,rfl,aw⟩;exact hK.out _ _ ⟨_,rfl,(by simp only[Zep];exact⟨_,_,_,_,rfl,aw⟩),ao,trivial⟩):G:=h
theorem Zs0(Fa Fb:FuncId)(V U:Array Value)(A:Option Addr)(n c:Nat)(ws:List Int)(a b:Nat->Int)(w:World)(h:LimI w A n c ws)(hn:n<=900)
    (ha:∀ i,i<n->I64 (a i)) (hb:∀ i,i<n->I64 (b i))
    (hca:∀ (x:Value) (W:World),(callFunc Fa (#[x]++V)).run Tryz.prog W=.ok (.enter Fa (#[x]++V)) W)
    (hcb:∀ (x:Value) (W:World),(callFunc Fb (#[x]++U)).run Tryz.prog W=.ok (.enter Fb (#[x]++U)) W)
    (hA:∀ (W:World) (i:Nat),Below w.heap.size w W->i<n->Calls Tryz.prog Fa (#[.int .i64 i]++V) W λe W'=>e=.returned (.int .i64 (a i))/\Below W.heap.size W W')
    (hB:∀ (W:World) (i:Nat),Below w.heap.size w W->i<n->Calls Tryz.prog Fb (#[.int .i64 i]++U) W λe W'=>e=.returned (.int .i64 (b i))/\Below W.heap.size W W') :
    Calls Tryz.prog 114 #[.slice A n c,.func (.func Fa) #[] V,.func (.func Fb) #[] U] w (Ze9 w ((Zb5 ws a b n:Int):Rat)):=by
 have hmx:=Gt;have f7:=h.1;have f8:=h.2.1;have f3:=h.2.2.1;unfold maxLen at f3;have e2:=Zb h.2.2.2.1;have hg:=Zb h.2.2.2.2;replace hA:=Zb hA;replace hB:=Zb hB;have e5:=Zb ha;have d7:=Zb hb;clear h ha hb;obtain⟨W0,e4,e6,⟨q0,q1⟩,s0⟩:=Zcs w 32 #[.bool false,.slice none 0 0,.bool false,.slice none 0 0] 30 #[.bool false,.slice none 0 0];obtain⟨gr,a4⟩:=Gz w.heap.size;rw[a4]at q0 q1;obtain⟨gs,a5⟩:=Gz (gr+1);rw[a5]at q1;have f6:w.heap.size<=gr:=Gk;have e1:w.heap.size<=gs:=Gk;have e3:gr≠gs:=Gk;have d8:Wd W0 false none 0 0 0:=Wd.zero _;go_in;go_wp2_with fail;(try rw[e4]);(try rw[a4]);(try rw[a5]);replace a4:=Zb a4;replace a5:=Zb a5;clear e4 s0
 go_loopw [14] (λiv wr=>∃ (i:Nat) (sn:Bool) (sA:Option Addr) (sk sc:Nat),i<=n/\iv=.int .i64 i/\Wd wr sn sA sk sc (Zb5 ws a b i)/\Blk wr gs 30 #[.bool sn,.slice sA sk sc]/\Blk wr gr 32 #[.bool false,.slice none 0 0,.bool false,.slice none 0 0]/\Below w.heap.size w wr) (λiv _=>n-(intOf iv).toNat)
 case atStart=>exact⟨0,false,none,0,0,QI _,rfl,d8,q1,q0,e6⟩
 case round =>
  clear q0 q1 e6 d8;obtain⟨i,sn,sA,sk,sc,f9,rfl,hs,qs,qr,I⟩:=hrel;obtain⟨s0,s1,s2,s3⟩:=qs.two;replace hs:=Zb hs;replace qs:=Zb qs;replace qr:=Zb qr;by_cases hin:i<n
  case neg =>
   obtain rfl:n=i:=Gk;have f4:decide ((n:Int)<(n:Int))=false:=Gh;generalize Zb5 ws a b n=D at *;go_wp2_with fail;have J:Hid (∀ wx,Below wr.heap.size wr wx->wx.cell? ⟨gs,0,none⟩=some (.bool sn)/\wx.cell? ⟨gs,1,none⟩=some (.slice sA sk sc)):=Zb (λwx f=>⟨Za f s0,Za f s1⟩);have E:Below wr.heap.size wr wr.drew:=Zg (Qa _ _) 1;refine wp_heldS [] hmx J E (λhxs2=>?_);refine Zin 1 [0] rfl Gj (J.out _ E) ?_
   (refine tkA ?_;try simp only[Qc,Zf6,Zfl,Zfx,Gr,Gq,Gp])
   refine tk0 ?_;refine Zbk [(1,39),(2,40),(3,37),(4,41),(6,10)] (λi=>match i with|3=>[5]|_=>[]) [(1,39),(2,40),(3,37),(5,42),(4,41),(6,10)] (Zhp wr.heap.size (D:Rat)) 2 Gj (λ_ _ _ _ _ hb h=>Zru hb h) (λwx h=>J.out _ (Gs E h)) ?hop2 ?hfin2
   case hop2 =>
    intro p hp;simp only[List.mem_cons,QM,or_false]at hp;simp only[Qw,QA,Zaj,Qc,Zf6,Zfl,Zfx];rcases hp with rfl|rfl|rfl|rfl|rfl
    ·intro ν wx hb hP
     refine Zj (i:=1) rfl (λK hK=>?_);go_simp;refine(Zcn 1 wx Gi Gi).mono ?_;rintro e w5 ⟨ao,cb,A5,k5,c5,rfl,aw⟩;exact hK.out _ _ ⟨_,rfl,(by simp only[Zhp,Zar];exact⟨_,_,_,_,rfl,aw⟩),ao,trivial⟩
    ·intro ν wx hb hP
     have f:=Gs E hb;have h3:=end1 (hP (1,39) Gh Gj);obtain⟨a3,A3,k3,c3,hν3,O⟩:=h3;rw[hν3];obtain rfl:a3=false:=O.1;refine Zj (i:=2) rfl (λK hK=>?_);go_simp;refine(Zgy sn sA A3 sk sc k3 c3 D 1 wx (hs.out.below f) O Gi).mono ?_;rintro e w5 ⟨ao,cb,A5,k5,c5,e7,B5,m5,d5,rfl,aw⟩;rw[Zi3]at aw;exact hK.out _ _ ⟨_,rfl,(by simp only[Zhp,Zar];exact⟨_,_,_,_,_,_,_,_,rfl,aw⟩),ao,trivial⟩
    ·intro ν wx hb hP
     have h0:=hP (2,40) Gh Gj;simp only[Zhp,Zar]at h0;obtain⟨cb,A5,k5,c5,e7,B5,m5,d5,hν,aw⟩:=h0;rw[hν];refine Zj (i:=3) rfl (λK hK=>?_);go_simp;refine hK.out _ _ ⟨_,rfl,(by simp only[Zhp,Zar];exact⟨_,_,_,_,_,_,_,_,rfl,aw⟩),Qa _ _,?_⟩;exact⟨_,.int .i64 0,rfl,Qk ⟨by kernel_rfl,λW2 _=>by go_simp⟩,by simp[Zhp,Zar],trivial⟩
    ·intro ν wx hb hP
     have h0:=hP (3,37) Gh Gj;simp only[Zhp,Zar]at h0;obtain⟨cb,A5,k5,c5,e7,B5,m5,d5,hν,aw⟩:=h0;rw[hν];refine Zj (i:=4) rfl (λK hK=>?_);go_simp;exact hK.out _ _ ⟨_,rfl,(by simp only[Zhp,Zar];exact⟨_,_,_,_,_,_,_,_,rfl,aw⟩),Qa _ _,trivial⟩
    intro ν wx hb hP;refine Zj (i:=6) rfl (λK hK=>?_);go_simp;exact hK.out _ _ ⟨_,rfl,(by simp only[Zhp,Zar];exact⟨_,rfl,(Gs E hb).size,Blk.new _ _ _⟩),(Qa _ _).alloc (Qf _) _,trivial⟩
   case hfin2 =>
    intro ν wx hb hP;have h0:=end1 (hP (1,39) Gh);have h1:=hP (2,40) Gh;have h2:=hP (3,37) Gh;have h3:=hP (5,42) Gh;have h4:=hP (4,41) Gh;have h5:=hP (6,10) Gh;simp only[Zhp,Zar]at h1 h2 h4 h5;obtain⟨_,_,_,_,h0,-⟩:=h0;obtain⟨_,_,_,_,_,_,_,_,h1,-⟩:=h1;obtain⟨_,_,_,_,_,_,_,_,h2,-⟩:=h2;obtain⟨fn,fA,fk,fc,fm,fB,fj,fd,h4,e0⟩:=h4;obtain⟨gv,h5,kv,qv⟩:=h5;simp only[Qw,QA,Zaj,Qc,Zf6,Zfl,Zfx];rw[h0,h1,h2,(show ν 42=Value.int .i64 0 by simpa [Zhp,Zar]using h3),h4,h5];clear h0 h1 h2 h3 h4 h5 hP ν;have f:=Gs E hb;have b1:=Zc f qr.out;have d9:gr≠gv:=by have:=qr.out.lt;omega
    obtain⟨V,hV,f5,q6,kV⟩:=Zm (B:=gv) fn fA fk fc fm fB fj fd (Qa gv wx) (Qf _) qv
    have a9:Below w.heap.size w V:=by
     rw[<- hV];have b9:w.heap.size<=gv:=Qy I.size kv;exact((((Gs I f).setCell (p:=⟨gv,0,none⟩) b9 _).setCell (p:=⟨gv,1,none⟩) b9 _).setCell (p:=⟨gv,2,none⟩) b9 _).setCell (p:=⟨gv,3,none⟩) b9 _
    have c8:Hid (Below wr.heap.size wr V):=Zb (by rw[<- hV];exact(((f.setCell (p:=⟨gv,0,none⟩) kv _).setCell (p:=⟨gv,1,none⟩) kv _).setCell (p:=⟨gv,2,none⟩) kv _).setCell (p:=⟨gv,3,none⟩) kv _);have c7:=Zb (Fr.keep e0 kV.1);have a1:=kV.2.1 gr _ _ d9 b1;obtain⟨y0,y1,y2,y3,y4,y5,y6,y7⟩:=qv.four;replace q6:=Zb q6;replace a1:=Zb a1;replace a9:=Zb a9;clear e0 kV b1 f5 qv;refine wpAnyL_o 7 λK hK=>?_;go_simp;(try rw[hV]);refine hK.out _ _ (λ_=>J.out _ (c8.out)) ?_;clear hK K
    try simp only[Qc,Zf6,Zfl,Zfx]
    refine Zfm 1 [8] rfl Gj (J.out _ c8.out) ?_
    (refine tkA ?_;try simp only[Qc,Zf6,Zfl,Zfx,Gr,Gq,Gp])
    refine tk0 ?_;refine wpAnyL_fin ?_;clear hV y0 y1 y2 y3 y4 y5 y6 y7 f hb E J hxs2 s0 s1 c8;obtain⟨z0,z1,z2,z3,-⟩:=q6.out.four;obtain⟨r0,r1,r2,r3,r4,r5,r6,r7⟩:=a1.out.four;go_wp2_with fail;obtain⟨X,hX,e9,q8,st⟩:=Zm fn fA fk fc fm fB fj fd a9.out f6 a1.out;(try rw[hX]);obtain⟨x0,x1,x2,x3,-⟩:=q8.four;refine bodyPost_ret (v:=.agg #[.bool fn,.slice fA fk fc,.bool fm,.slice fB fj fd]) (by simp[results,Tryz.results114,go_sem,x0,x1,x2,x3]) rfl ?_;exact⟨e9,_,_,_,_,_,_,_,_,rfl,Fr.keep c7.out st.1⟩
  have f4:decide ((i:Int)<(n:Int))=true:=Gv Gk;obtain⟨g,o,rfl,d3⟩:=hg.out Gk;have ci:=(I.cell (Zn (d3 i hin))).trans (d3 i hin);clear d3;have hx:=Zf1 e2.out i;have ha:=e5.out i hin;have a7:=d7.out i hin;have a2:(Zb5 ws a b i+(ws[i]?.getD 0)*(a i*b i)).natAbs<pw 4096:=dotZ_pw (i:=i+1) e2.out Gk (λj hj=>⟨e5.out j Gk,d7.out j Gk⟩);have C:Zb5 ws a b (i+1)=Zb5 ws a b i+(ws[i]?.getD 0)*(a i*b i):=rfl;rw[<- C]at a2;replace C:=Zb C;obtain⟨x,c6⟩:=Gz (ws[i]?.getD 0);obtain⟨a0,b2⟩:=Gz (a i);obtain⟨b0,b3⟩:=Gz (b i);obtain⟨s,d0⟩:=Gz (Zb5 ws a b i);replace C:=C.out;rw[c6,b2,b3,d0]at C;rw[C]at a2;rw[c6]at hx ci;rw[b2]at ha;rw[b3]at a7;rw[d0]at hs;replace a2:=Zb a2;replace C:=Zb C;replace b2:=Zb b2;replace b3:=Zb b3;clear c6 d0;go_wp2_with fail;have Y:Hid (∀ wx,Below wr.heap.size wr wx->wx.cell? ⟨g,o+i,none⟩=some (.int .i64 x)/\wx.cell? ⟨gs,0,none⟩=some (.bool sn)/\wx.cell? ⟨gs,1,none⟩=some (.slice sA sk sc)):=Zb (λwx f=>⟨Za f ci,Za f s0,Za f s1⟩);have u:Below wr.heap.size wr wr.drew:=Zg (Qa _ _) 1;refine wp_heldS [17] hmx Y u (λhxs1=>?_);refine Zin 1 [0] rfl Gj (Y.out _ u) ?_
  (refine tkA ?_;try simp only[Qc,Zf6,Zfl,Zfx,Gr,Gq,Gp])
  refine tk0 ?_;refine Zfm 5 [1,3,4,7,8] rfl Gj (Y.out _ u) ?_
  iterate 5 (refine tkA ?_;try simp only[Qc,Zf6,Zfl,Zfx,Gr,Gq,Gp])
  refine tk0 ?_;refine Zbk [(2,22),(5,25),(6,26),(9,29),(10,30),(11,31),(12,32),(13,33),(14,19)] (λi=>match i with|14=>[15,16]|_=>[]) [(2,22),(5,25),(6,26),(9,29),(10,30),(11,31),(12,32),(13,33),(14,19),(15,34),(16,35)] (Zep x a0 b0 s) 1 Gj (λ_ _ _ _ _ hb h=>Zqs hb h) (λwx h=>Y.out _ (Gs u h)) ?hop1 ?hfin1
  case hop1 =>
   intro p hp;simp only[List.mem_cons,QM,or_false]at hp;simp only[Qw,QA,Zaj,Qc,Zf6,Zfl,Zfx];rcases hp with rfl|rfl|rfl|rfl|rfl|rfl|rfl|rfl|rfl
   ·intro ν wx hb hP
    have f:=Gs u hb;refine Zj (i:=2) rfl (λK hK=>?_);go_simp;refine(Zcn x wx hx.1 hx.2).mono ?_;exact Ea
   ·intro ν wx hb hP
    have f:=Gs u hb;refine Zj (i:=5) rfl (λK hK=>?_);go_simp;refine(hA.out wx i (Gs I f) hin).mono ?_;rintro e w5 ⟨rfl,ao⟩;exact hK.out _ _ ⟨_,rfl,(show Value.int .i64 _=Value.int .i64 _ from by rw[b2.out]),ao,trivial⟩
   ·intro ν wx hb hP
    have f:=Gs u hb;have h3:=hP (5,25) Gh Gj;replace h3:=dot5 h3;rw[h3];refine Zj (i:=6) rfl (λK hK=>?_);go_simp;refine(Zcn a0 wx ha.1 ha.2).mono ?_;exact Ea
   ·intro ν wx hb hP
    have f:=Gs u hb;refine Zj (i:=9) rfl (λK hK=>?_);go_simp;refine(hB.out wx i (Gs I f) hin).mono ?_;rintro e w5 ⟨rfl,ao⟩;exact hK.out _ _ ⟨_,rfl,(show Value.int .i64 _=Value.int .i64 _ from by rw[b3.out]),ao,trivial⟩
   ·intro ν wx hb hP
    have f:=Gs u hb;have h3:=hP (9,29) Gh Gj;replace h3:=dot9 h3;rw[h3];refine Zj (i:=10) rfl (λK hK=>?_);go_simp;refine(Zcn b0 wx a7.1 a7.2).mono ?_;exact Ea
   ·intro ν wx hb hP
    have f:=Gs u hb;have h3:=hP (6,26) Gh Gj;replace h3:=dot6 h3;obtain⟨a3,A3,k3,c3,hν3,O⟩:=h3;rw[hν3];have h4:=hP (10,30) Gh Gj;replace h4:=dot10 h4;obtain⟨a6,A4,k4,c4,hν4,a8⟩:=h4;rw[hν4];refine Zj (i:=11) rfl (λK hK=>?_);go_simp;refine(Zhd a3 a6 A3 A4 k3 c3 k4 c4 _ _ wx O a8 (two_pw ha a7)).mono ?_;exact Ea
   ·intro ν wx hb hP
    have f:=Gs u hb;have h3:=hP (2,22) Gh Gj;replace h3:=dot2 h3;obtain⟨a3,A3,k3,c3,hν3,O⟩:=h3;rw[hν3];have h4:=hP (11,31) Gh Gj;replace h4:=dot11 h4;obtain⟨a6,A4,k4,c4,hν4,a8⟩:=h4;rw[hν4];refine Zj (i:=12) rfl (λK hK=>?_);go_simp;refine(Zhd a3 a6 A3 A4 k3 c3 k4 c4 _ _ wx O a8 (Zwq hx ha a7)).mono ?_;exact Ea
   ·intro ν wx hb hP
    have f:=Gs u hb;have h4:=hP (12,32) Gh Gj;replace h4:=dot12 h4;obtain⟨a6,A4,k4,c4,hν4,a8⟩:=h4;rw[hν4];refine Zj (i:=13) rfl (λK hK=>?_);go_simp;refine(Zwb sn a6 sA A4 sk sc k4 c4 _ _ wx (hs.out.below f) a8).mono ?_;rintro e w5 ⟨ao,cb,A5,k5,c5,code,rfl,hR⟩;rcases hR with ⟨_,rfl,aw⟩|⟨e8,_⟩;exact hK.out _ _ ⟨_,rfl,(by simp only[Zep];exact⟨_,_,_,_,rfl,aw⟩),ao,trivial⟩;exact absurd e8 (Nat.not_le.2 a2.out)
   intro ν wx hb hP;have f:=Gs u hb;have h3:=hP (13,33) Gh Gj;replace h3:=dot13 h3;obtain⟨a3,A3,k3,c3,hν3,O⟩:=h3;rw[hν3];refine Zj (i:=14) rfl (λK hK=>?_);go_simp;refine hK.out _ _ ⟨_,rfl,(by simp only[Zep];exact⟨_,_,_,_,rfl,O⟩),Qa _ _,?_⟩;refine⟨_,.agg #[.bool a3,.slice A3 k3 c3],rfl,Qk ⟨by kernel_rfl,λW2 _=>by go_simp⟩,(by simp only[Zep];exact⟨_,_,_,_,rfl,O⟩),?_⟩;exact⟨_,.int .i64 0,rfl,Qk ⟨by kernel_rfl,λW2 _=>by go_simp⟩,rfl,trivial⟩
  case hfin1 =>
   intro ν wx hb hP;have h2:=dot2 (hP (2,22) Gh);have h5:=dot5 (hP (5,25) Gh);have h6:=dot6 (hP (6,26) Gh);have h9:=dot9 (hP (9,29) Gh);have b7:=dot10 (hP (10,30) Gh);have c0:=dot11 (hP (11,31) Gh);have b8:=dot12 (hP (12,32) Gh);have b4:=dot13 (hP (13,33) Gh);have b5:=dot14 (hP (14,19) Gh);have b6:=dot15 (hP (15,34) Gh);have d6:=dot16 (hP (16,35) Gh);obtain⟨_,_,_,_,h2,-⟩:=h2;obtain⟨_,_,_,_,h6,-⟩:=h6;obtain⟨_,_,_,_,b7,-⟩:=b7;obtain⟨_,_,_,_,c0,-⟩:=c0;obtain⟨_,_,_,_,b8,-⟩:=b8;obtain⟨_,_,_,_,b4,-⟩:=b4;obtain⟨_,_,_,_,b5,-⟩:=b5;obtain⟨n5,A5,k5,c5,b6,aw⟩:=b6;simp only[Qw,QA,Zaj,Qc,Zf6,Zfl,Zfx];rw[h2,h5,h6,h9,b7,c0,b8,b4,b5,b6,d6];clear h2 h5 h6 h9 b7 c0 b8 b4 b5 b6 d6 hP ν;have f:=Gs u hb;have c9:=Zc f qs.out;have b1:=Zc f qr.out;obtain⟨W6,c1,f0,q6,c2⟩:=Zbt (B:=gs) n5 A5 k5 c5 (Qa gs wx) (Qf _) c9
   have d4:Below w.heap.size w W6:=by
    rw[<- c1];exact((Gs I f).setCell (p:=⟨gs,0,none⟩) e1 _).setCell (p:=⟨gs,1,none⟩) e1 _
   have c7:=Zb (c2.1 _ _ _ _ _ aw);have a1:=c2.2.1 gr _ _ e3 b1;obtain⟨y0,y1,y2,y3⟩:=c9.two;replace q6:=Zb q6;replace a1:=Zb a1;replace d4:=Zb d4;clear aw c2 c9 b1 f0;refine Zr (i:=17) rfl Gj Gj (λK hK=>?_);go_simp;(try rw[c1]);refine hK.out _ _ ?_;clear hK K
   try simp only[Qc,Zf6,Zfl,Zfx]
   refine wpAnyL_fin ?_;clear c1 y0 y1 y2 y3 f hb u Y hxs1 ci s0 s1;go_wp2_with fail
   go_roundw
   case rel=>exact⟨i+1,n5,A5,k5,c5,by omega,by go_num,c7.out.same C.out.symm,q6.out,a1.out,d4.out⟩
   case measure=>simp[intOf];omega
open Go.RowKit Go.Shelf
attribute [local go_sem] Oper.semAt_some
def rsAt(es:List RS)(k:Nat):RS:=es[k]?.getD ⟨none,0,0⟩
def SL(w:World)(A:Option Addr)(n c:Nat)(es:List RS):Prop:=
 es.length=n/\n<=c/\c<=maxLen/\(0<n->∃ g o,A=some ⟨g,o,none⟩/\∀ (k:Nat) (e:RS),es[k]?=some e->w.cell? ⟨g,o+k,none⟩=some (.slice e.A e.n e.c))
theorem SL.below{w w':World}{A:Option Addr}{n c:Nat}{es:List RS}(h:SL w A n c es)(hb:Below w.heap.size w w'):SL w' A n c es:=
 ⟨h.1,h.2.1,h.2.2.1,λhn=>by
  obtain⟨b,o,e,hc⟩:=h.2.2.2 hn;exact⟨b,o,e,λk x hx=>Za hb (hc k x hx)⟩⟩
theorem SL.at_{w:World}{A:Option Addr}{n c:Nat}{es:List RS}(h:SL w A n c es){k:Nat}(hk:k<n):∃ b o e,A=some ⟨b,o,none⟩/\es[k]?=some e/\w.cell? ⟨b,o+k,none⟩=some (.slice e.A e.n e.c):=by
 obtain⟨h1,-,-,h4⟩:=h;obtain⟨b,o,e,hc⟩:=h4 Gk;have he:=Qb (l:=es) (i:=k) Gk;exact⟨b,o,es[k],e,he,hc k _ he⟩
theorem sl_kept{W W':World}{row:Option Nat}{A:Option Addr}{n c:Nat}{es:List RS}(h:SL W A n c es)(hg:W.grownBy W' row)(hrow:∀ r,row=some r->∃ o:Obj,W.heap[r]?=some o/\o.isCells=false):SL W' A n c es:=
 ⟨h.1,h.2.1,h.2.2.1,λhn=>by
  obtain⟨b,o,e,hc⟩:=h.2.2.2 hn;exact⟨b,o,e,λk x hx=>cell_kept (hc k x hx) hg hrow⟩⟩
def KpR(Bs:Nat)(A:Option Addr)(n c:Nat)(es:List RS)(W W':World):Prop:=
 (W.cell? ⟨Bs,0,none⟩=some (.slice A n c)->W'.cell? ⟨Bs,0,none⟩=some (.slice A n c))/\(SL W A n c es->SL W' A n c es)
theorem KpR.trans{Bs n c:Nat}{A:Option Addr}{es:List RS}{W1 W2 W3:World}(h:KpR Bs A n c es W1 W2)(k:KpR Bs A n c es W2 W3):KpR Bs A n c es W1 W3:=⟨λx=>k.1 (h.1 x),λx=>k.2 (h.2 x)⟩
theorem KpR.put{Bs n c:Nat}{A:Option Addr}{es:List RS}(W:World)(lp:Nat)(o o':Obj)(ho:W.heap[lp]?=some o)(hc:o.isCells=false):KpR Bs A n c es W (W.putObj lp o'):=
 ⟨λh=>cell_kept h (grownBy_putObj' W lp o') (λr e=>by cases e;exact⟨o,ho,hc⟩),λh=>sl_kept h (grownBy_putObj' W lp o') (λr e=>by cases e;exact⟨o,ho,hc⟩)⟩
theorem Zue(A:Option Addr)(n c:Nat)(w:World) :
    Calls Tryz.prog 117 #[.slice A n c] w λe w'=>e=.returned (.func (.func 151) #[] #[.pointer (some ⟨w.heap.size,0,none⟩)])/\w.alloc (.cells #[.slice A n c] 165)=w':=by
 go_in
 go_wp2
 go_ret;exact⟨rfl,rfl⟩
def Zwi(d:Nat)(P:Program)(gf:Nat)(lb:Array Value)(encs:Nat->Array Value)(Kp:World->World->Prop)(N:Nat)(w:World):Prop:=
 ∀ (l:Nat) (J:Nat->World->Prop) (W:World),Below w.heap.size w W->AbidesFrom W.heap.size J ->
  (∀ k V,k<N->J k V->YieldAt Fence.wide (d-1) P l (encs k) V λe V'=>e=.returned (.bool true)/\J (k+1) V'/\Kp V V') ->
  J 0 W->CallsIn Fence.wide d P gf (#[.func (.yield l) #[] #[]]++lb) W λe V'=>(∃ v,e=.returned v)/\J N V'
def goesOn(Kp:World->World->Prop)(J:World->Prop)(W:World):Exit->Act->World->Prop
 | .normal,_,W'=>KeepsOthers W W'/\Kp W W'/\J W'
 | .ret,_,_=>False
 | .exit _,_,_=>False
 | .goto _,_,_=>False
 | .panic _,_,_=>False
 | .outgrown,_,_=>False
theorem Zl1{d:Nat}{P:Program}{g:Operand}{ps:Array Tmp}{assign body:Code}{Q:Exit->Act->World->Prop}{a:Act}{w:World}(h1:1<=d){gf:Nat}{lb:Array Value}
    (hg:a.eval g=.func (.func gf) #[] lb) (eg:∀ args w,(callFunc gf args).run P w=.ok (.enter gf args) w)
    {encs:Nat->Array Value} {Kp:World->World->Prop} {N:Nat} {w0:World} (hseq:Zwi (d-1) P gf lb encs Kp N w0)
    (hKt:∀ {A B C:World},Kp A B->Kp B C->Kp A C) (hKb:∀ (W:World) (l:Nat) (o o':Obj),w.heap.size<=l->W.heap[l]?=some o->o.isCells=false->o.isWalk=false->Kp W (W.putObj l o')) (hb0:Below w0.heap.size w0 w) (hps:∀ k,(encs k).size=ps.size)
    (I:Nat->World->Prop) (hI:OwnFrom w.heap.size I) (h0:I 0 w) (a₁:Nat->Act)
    (hassign:∀ (l k:Nat) (W:World) (K:Act->World->Prop),k<N->K (a₁ k) W ->
     assign.wpIn (Fence.wide.inRound l) (d-1-1) P (Exit.then K (λ_ _ _=>False)) { tmps:=(ps.zip (encs k)).foldl (λt (p,v)=>t.setIfInBounds p v) a.tmps,defers:=[] } W)
    (hbody:∀ (l k:Nat) (W:World),k<N->I k W->body.wpIn (Fence.wide.inRound l) (d-1-1) P (goesOn Kp (I (k+1)) W) (a₁ k) W)
    (hdone:∀ (D:Nat) (W:World),w.heap.size<=D->I N W->W.heap[D]?=some (.deferred (some []))->Q .normal { a with defers:={ target:=.collected D,args:=#[] } :: a.defers } W) :
    (Code.rangeFunc g ps assign body).wpIn Fence.wide d P Q a w:=by
 refine wpIn_rangeFunc λfn hfn=>?_;rw[show Fence.wide.round=none from rfl];obtain⟨B,hB⟩:=Gz w.heap.size;rw[hB]at hI hKb hdone;obtain⟨rec,f⟩:∃ rec:LoopState->Option Code->Loop,rec=λst pe=>{ state:=st,pending:=pe,fn,tmps:=a.tmps,params:=ps,assign,body,defers:=B }:=⟨_,rfl⟩;obtain⟨W1,E⟩:=Gz ((w.alloc (.deferred (some []))).alloc (.loop (rec .ready none)));have sz:W1.heap.size=B+1+1:=by rw[<- E,<- hB];simp
 have lp:W1.heap[B+1]?=some (.loop (rec .ready none)):=by
  have h:=World.alloc_heap_new (w.alloc (.deferred (some []))) (.loop (rec .ready none));rw[World.size_alloc,hB,E]at h;exact h
 have df:W1.heap[B]?=some (.deferred (some [])):=by
  rw[<- E,<- hB];exact(Below.heap_alloc _ _ _ Gh).trans (World.alloc_heap_new w _)
 have i1:I 0 W1:=by rw[<- E];exact hI.alloc _ (hI.alloc _ h0)
 have b1:Below w0.heap.size w0 W1:=by
  rw[<- E];exact hb0.trans (((Qa _ w).alloc (Qf _) _).trans ((Qa _ _).alloc Gh _) |>.mono hb0.size)
 obtain⟨J,hJ⟩:∃ J:Nat->World->Prop,J=λk W=>I k W/\W.heap[B+1]?=some (.loop (rec .ready none))/\W.heap[B]?=some (.deferred (some [])):=⟨_,rfl⟩
 have key:=hseq (B+1) J W1 b1 (λk X Y row hs hgr hr=>by
     rw[hJ]at hs ⊢;have a0:∀ r,row=some r->∃ o:Obj,X.heap[r]?=some o/\o.isWalk=true:=λr e=>(hr r e).2;refine⟨hI k X Y row hs.1 hgr (λr e=>?_),(grownBy_keeps hgr a0 hs.2.1 rfl).trans hs.2.1,(grownBy_keeps hgr a0 hs.2.2 rfl).trans hs.2.2⟩;obtain⟨hl,o,ho,hw⟩:=hr r e;exact⟨by omega,o,ho,Obj.not_cells_of_walk hw⟩)
  (λk V hk hs=>by
   rw[hJ]at hs;obtain⟨hi,hl,hd⟩:=hs;have a2:B+1<V.heap.size:=(Array.getElem?_eq_some_iff.1 hl).1;have hy:=run_yield (P:=P) (args:=encs k) hl (by rw[f];exact hps k);rw[f]at hy;obtain⟨V2,U⟩:∃ X,V.putObj (B+1) (.loop { rec .ready none with state:=.busy })=X:=⟨_,rfl⟩;refine⟨fn,_,assign,body,hy,roundIn_of_wpIn hfn (hassign _ k V _ hk ⟨V2,by rw[<- U];exact run_beginRound hl (by rw[f]),?_⟩)⟩;have a4:V2.heap[B+1]?=some (.loop { rec .ready none with state:=.busy }):=by rw[<- U];exact World.putObj_heap_same a2
   have a1:V2.heap[B]?=some (.deferred (some [])):=by rw[<- U];exact(World.putObj_heap_other Gk).trans hd
   have a6:Kp V V2:=by rw[<- U];exact hKb _ _ _ _ Gk hl rfl rfl
   have a5:I k V2:=by rw[<- U];exact hI.putObj _ hi Gk hl rfl
   refine wpIn_mono (hbody _ k V2 hk a5) λe a3 V3 hq=>?_;cases e with
   | normal =>
    obtain⟨ko,kp,i3⟩:=hq;have O:=ko.same _ _ a4 rfl;have u:=run_endRound (P:=P) none O;rw[f]at u O;refine⟨_,_,u,rfl,?_,hKt (hKt a6 kp) (hKb _ _ _ _ Gk O rfl rfl)⟩;rw[hJ];refine⟨hI.putObj _ i3 Gk O rfl,?_,(World.putObj_heap_other Gk).trans (ko.same _ _ a1 rfl)⟩;rw[f];exact World.putObj_heap_same (Array.getElem?_eq_some_iff.1 O).1
   | ret=>exact hq.elim
   | exit id=>exact hq.elim
   | goto t=>exact hq.elim
   | panic ch=>exact hq.elim
   | outgrown=>exact hq.elim)
  (by rw[hJ];exact⟨i1,lp,df⟩)
 refine⟨B+1,[{ target:=.collected B,args:=#[] }],W1,{ target:=.fn (.func gf) lb,args:=#[.func (.yield (B+1)) #[] #[]] },W1,gf,#[.func (.yield (B+1)) #[] #[]]++lb,W1,?_,?_,λ_ _=>trivial,?_,λ_=>h1,?_⟩;rw[<- E,f,<- hB];exact run_enterLoop_outer _ _ _ _ _
 ·simp only[resolve,hg]
  simp[go_sem]
 ·simp[invoke,go_sem,eg]
 refine key.mono ?_;rintro e W2 ⟨⟨v,rfl⟩,hs⟩;rw[hJ]at hs;obtain⟨hi,hl,hd⟩:=hs;have u:=run_endLoop (P:=P) hl (by rw[f];simp);rw[f]at u;exact⟨none,_,u,hdone _ _ (Qf _) (hI.putObj _ hi Gk hl rfl) ((World.putObj_heap_other Gk).trans hd)⟩
def Zls(es:List RS)(n:Nat)(k:Nat):Array Value:=#[.int .i64 ((n-1-k:Nat):Int),RS.val (rsAt es (n-1-k))]
theorem Zuq(d:Nat)(hd:1<=d)(Bs n c:Nat)(A:Option Addr)(es:List RS)(w:World)(hc:w.cell? ⟨Bs,0,none⟩=some (.slice A n c))(hL0:SL w A n c es) :
    Zwi d Tryz.prog 151 #[.pointer (some ⟨Bs,0,none⟩)] (Zls es n) (KpR Bs A n c es) n w:=by
 intro lp J W hW _ hY h0;have U:W.cell? ⟨Bs,0,none⟩=some (.slice A n c):=(hW.cell (Zn hc)).trans hc;have hL:SL W A n c es:=hL0.below hW;clear hW hc hL0;have a0:=hL.2.1;have I:=hL.2.2.1;unfold maxLen at I;refine callsIn_of_wp Tryz.func151 rfl trivial ?_ rfl;simp only[Tryz.ntmps151,List.size_toArray,List.length_cons,List.length_nil,Nat.reduceAdd,Nat.reduceSub,Array.replicate_succ,Array.replicate_zero,List.push_toArray,List.append_toArray,List.nil_append,List.cons_append]
 gi_wp2
 gi_loopw [3] (λi wr=>∃ k:Nat,k<=n/\i=.int .i64 ((n:Int)-1-k)/\J k wr/\Hid (wr.cell? ⟨Bs,0,none⟩=some (.slice A n c))/\SL wr A n c es)
  (λi _=>(intOf i+1).toNat)
 case atStart=>exact⟨0,QI _,by go_num,h0,U,hL⟩
 case round =>
  obtain⟨k,hk,rfl,h,f,u⟩:=hrel;have Y:=f.out;by_cases hlt:k<n
  ·obtain⟨b,o,e,rfl,he,a1⟩:=u.at_ (k:=n-1-k) Gk
   obtain⟨fn,tmps,assign,body,hy,hR⟩:=hY k wr hlt h;dsimp only[Zls,RS.val,rsAt]at hy;rw[he,Qs]at hy;rw[show ((n-1-k:Nat):Int)=(n:Int)-1-k by omega]at hy
   gi_wp2
   refine hR.mono ?_;rintro e W3 ⟨rfl,O,C⟩;have E:=Zb (C.1 f.out)
   gi_wp2
   go_roundw
   case rel=>exact⟨k+1,by omega,by go_num,O,E,C.2 u⟩
   case measure=>simp[intOf];omega
  obtain rfl:k=n:=Gk
  gi_wp2
  go_end0
  exact⟨⟨_,rfl⟩,h⟩
theorem Zqa(k:Nat):Qq k (Value.slice none 0 0)=Zax (Qq k Zbl):=by
 rw[Zc0,List.map_replicate];rfl
theorem Zso{P:Program}(t e:TypeId){i:TypeInfo}(ht:P.underlying t=some (.slice e))(hi:P.info? e=some i)(hz:i.zero=some (.slice none 0 0))(hs:i.size=1)(hb:i.bytes=24)
    (x:Int) (n:Nat) (hx:x=n) (hn:n<=1000000000000) (W:World) :
    (Instr.makeSlice t (.int .i64 x) (.int .i64 x)).run P W=.ok (.slice (some ⟨W.heap.size,0,none⟩) n n) (W.alloc (.cells (Zao (Qq n Zbl)) e)):=by
 subst hx;have hr:=run_make (P:=P) W t e i _ ht hi hz .i64 .i64 n n Gk Gk (by rw[hb];omega) Gk;simp only[QH]at hr;rw[hr,hs,Nat.mul_one]
 have:madeCells (Value.slice none 0 0).cells n=Zao (Qq n Zbl):=by
  apply Array.toList_inj.1;show (madeCells #[.slice none 0 0] n).toList=Zax (Qq n Zbl);rw[<- Zqa];apply Qh;intro j;unfold madeCells;by_cases h:j<n;simp[h,Nat.mod_one];simp[h]
 rw[this]
section
variable{P:Program}(w:World)
end
theorem BdR.mono{C D C' D' m:Nat}{R:List (List Rat)}(h:BdR C D m R)(hC:C<=C')(hD:D<=D'):BdR C' D' m R:=⟨h.1,λi j=>⟨Qn (h.2 i j).1 hC,Qn (h.2 i j).2 hD⟩⟩
theorem Zky{C D C' D' m:Nat}(hC:C<=C')(hD:D<=D'):∀ (f c r:Nat) (R:List (List Rat)),okR C D m f c r R->okR C' D' m f c r R
 | 0,_,_,_,h=>BdR.mono h hC hD
 | f+1,c,r,R,h=>⟨h.1.mono hC hD,h.2.imp id (λ⟨h1,h2⟩=>⟨λe=>Zky hC hD f _ _ _ (h1 e),λe=>Zky hC hD f _ _ _ (h2 e)⟩)⟩
