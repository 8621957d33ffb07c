/- Package wide: short. Package wide: left, by less than 32 -/
import Derived.Shelf.RegionOpen
import Derived.Test.YtaioanjcjijckaaGreatZb01
set_option maxRecDepth 100000
set_option maxHeartbeats 2000000
set_option linter.unusedSimpArgs false
set_option linter.unusedVariables false
namespace Go.Proofs.YtaioanjcjijckaaGreat
open Go.RowKit Go.Shelf
attribute [local go_sem] Zf
attribute [local go_sem] Oper.semAt_some
theorem Zhl {W W':World} {row:Option Nat} {g:Nat} {t:TypeId} {cs:Array Value} (h:Blk W g t cs) (hg:W.grownBy W' row) (hrow:∀ r,row=some r->∃ o:Obj,W.heap[r]?=some o/\o.isCells=false):Blk W' g t cs:=
 (hg.block g h.lt (fun e=>by
  obtain ⟨o,ho,hc⟩:=hrow g e.symm;unfold Blk at h;rw [h] at ho
  cases ho
  cases hc)).trans h
theorem Znr {n:Nat} {pre:List { i:Nat // i < n }} {x:{ i:Nat // i < n }} (hl:pre.length < n) (h:pre ++ [x]=Zct n (pre.length+1)):pre=Zct n pre.length/\x.1=n - 1 - pre.length:=by
 rw [Zda hl] at h;obtain ⟨h1,h2⟩:=List.append_inj' h rfl;refine ⟨h1,?_⟩;have:=congrArg (List.map (fun z:{ i:Nat // i < n }=>z.1)) h2
 simpa using this
def DownI (h n D:Nat) (l:List Nat) (rb:Nat->Value) (t6 t7:TypeId) (B0:Value) (tB:TypeId) (pre:List { i:Nat // i < n }) (W:World):Prop:=
 ∃ (o:List Nat) (r:Nat),Blk W h tB #[B0]/\Blk W (h+1) 147 (Zt o)/\Blk W (h+1+1) t6 #[.slice (some ⟨h+1,0,none⟩) n n]/\Blk W (h+1+1+1) t7 #[rb r]/\o.length=n/\Lt32 o/\r < D /\
  (pre=Zct n pre.length->val (o.drop (n - pre.length)) * D+r=val (l.drop (n - pre.length)))
theorem DownI.own {h n D:Nat} {l:List Nat} {rb:Nat->Value} {t6 t7:TypeId} {B0:Value} {tB:TypeId} {pre:List { i:Nat // i < n }} {W W':World} {row:Option Nat} (H:DownI h n D l rb t6 t7 B0 tB pre W) (hg:W.grownBy W' row) (hr:∀ r,row=some r->∃ o:Obj,W.heap[r]?=some o/\o.isCells=false):DownI h n D l rb t6 t7 B0 tB pre W':=by
 obtain ⟨o,r,h1,h2,h3,h4,h5⟩:=H;exact ⟨o,r,Zhl h1 hg hr,Zhl h2 hg hr,Zhl h3 hg hr,Zhl h4 hg hr,h5⟩
theorem DownI.step {h n D:Nat} {l:List Nat} {rb:Nat->Value} {t6 t7:TypeId} {B0:Value} {tB:TypeId} {pre:List { i:Nat // i < n }} {x:{ i:Nat // i < n }} {W':World} {o:List Nat} {r q r':Nat}
    (h1:Blk W' h tB #[B0]) (h2:Blk W' (h+1) 147 (Zt (o.set x.1 q))) (h3:Blk W' (h+1+1) t6 #[.slice (some ⟨h+1,0,none⟩) n n]) (h4:Blk W' (h+1+1+1) t7 #[rb r']) (h5:o.length=n) (h6:Lt32 o) (hq:q < 4294967296) (hr:r' < D)
    (hl:l.length=n) (hp:pre.length < n) (hI:pre=Zct n pre.length->val (o.drop (n - pre.length)) * D+r=val (l.drop (n - pre.length))) (he:q * D+r'=r * 4294967296+l[x.1]?.getD 0):DownI h n D l rb t6 t7 B0 tB (pre ++ [x]) W':=by
 refine ⟨o.set x.1 q,r',h1,h2,h3,h4,by rw [List.length_set];exact h5,h6.set _ hq,hr,fun e=>?_⟩;rw [List.length_append,List.length_singleton] at e ⊢;obtain ⟨e1,e2⟩:=Znr hp e;have hI:=hI e1;rw [show n - (pre.length+1)=x.1 by omega];rw [show n - pre.length=x.1+1 by omega] at hI;exact Zlc (by omega) (by omega) hI he
theorem trim_q (A:Option Addr) (n c:Nat) (l:List Nat) (w:World) (h:Lim w A n c l) :
    Calls Tryz.prog 149 #[.slice A n c] w fun e w'=>e=.returned (.slice A (digits (val l)).length c)/\∃ m,w'=w.drewN m:=
 (Ze3 A n c l w h).mono fun _ _ ⟨he,hw⟩=>⟨he,0,hw.symm⟩
def ShortP (w:World) (a d:Nat) (e:Ending) (w':World):Prop:=
 ∃ A n c,e=.returned (.tuple #[.slice A n c,limb (a % d)])/\Lim w' A n c (digits (a / d))/\Below w.heap.size w w'
theorem Zrt (A:Option Addr) (n c d:Nat) (l:List Nat) (w:World) (hl:Lim w A n c l) (hd0:0 < d) (hd:d < 4294967296) (hn9:n <= 1000000) :
    Calls Tryz.prog 205 #[.slice A n c,limb d] w (ShortP w (val l) d):=by
 obtain ⟨i0,hi,hz0,hz1,hz2⟩:=info_parts Zco;have hmk:=Zeo (P:=Tryz.prog) 25 147 Tryz.underlying25 hi hz0 hz1 hz2 (n:Int) n rfl (by omega);have hnc:=hl.2.1;have hcm:=hl.2.2.1;unfold maxLen at hcm
 have h9:1 <= 9:=by omega
 refine (callsIn_wide (n:=9)).1 ?_;refine callsIn_of_wp_marks Tryz.func205 rfl trivial ?_ rfl;simp only [Tryz.ntmps205,List.size_toArray,List.length_cons,List.length_nil,Nat.reduceAdd,Nat.reduceSub,Array.replicate_succ,Array.replicate_zero,List.push_toArray,List.append_toArray,List.nil_append,List.cons_append]
 gi_wp2_with (refine ⟨trivial,?_⟩;gi_at_call 210;refine (callsIn_wide.2 (Zjv _ _ _ _)).mono ?_;rintro e w' ⟨rfl,rfl⟩)
 have bD:=Blk.new w 147 #[limb d];have bO:=Blk.new (w.alloc (.cells #[limb d] 147)) 147 (Zt (List.replicate n 0));have b6:=Blk.new ((w.alloc (.cells #[limb d] 147)).alloc (.cells (Zt (List.replicate n 0)) 147)) 25 #[.slice (some ⟨w.heap.size+1,0,none⟩) n n];have b7:=Blk.new (((w.alloc (.cells #[limb d] 147)).alloc (.cells (Zt (List.replicate n 0)) 147)).alloc (.cells #[.slice (some ⟨w.heap.size+1,0,none⟩) n n] 25)) 147 #[limb 0];have bN:=Boxed.new ((((w.alloc (.cells #[limb d] 147)).alloc (.cells (Zt (List.replicate n 0)) 147)).alloc (.cells #[.slice (some ⟨w.heap.size+1,0,none⟩) n n] 25)).alloc (.cells #[limb 0] 147)) 25 (.slice A n c);simp only [World.size_alloc] at bO b6 b7 bN
 have hB0:Below w.heap.size w (((((w.alloc (.cells #[limb d] 147)).alloc (.cells (Zt (List.replicate n 0)) 147)).alloc (.cells #[.slice (some ⟨w.heap.size+1,0,none⟩) n n] 25)).alloc (.cells #[limb 0] 147)).alloc (.cells #[.slice A n c] 25)):=by go_grown
 have h0:DownI w.heap.size n d l limb 25 147 (limb d) 147 [] (((((w.alloc (.cells #[limb d] 147)).alloc (.cells (Zt (List.replicate n 0)) 147)).alloc (.cells #[.slice (some ⟨w.heap.size+1,0,none⟩) n n] 25)).alloc (.cells #[limb 0] 147)).alloc (.cells #[.slice A n c] 25)):=
  ⟨List.replicate n 0,0,(((bD.alloc _).alloc _).alloc _).alloc _,((bO.alloc _).alloc _).alloc _,(b6.alloc _).alloc _,b7.alloc _,by simp,Lt32.replicate _,hd0,fun _=>by rw [List.length_nil,Nat.sub_zero,List.drop_of_length_le (by simp),List.drop_of_length_le (by rw [hl.len];exact Nat.le_refl _)];simp [val]⟩
 have hmx:Tryz.prog.follows .mixedOrders=true:=by kernel_rfl
 refine wpIn_rangeFunc_ownF rfl h9 (gf:=226) (lb:=#[.pointer (some ⟨w.heap.size+1+1+1+1,0,none⟩)]) rfl trivial (enters_of Tryz.func226 (by kernel_rfl) rfl)
  (Zg6 8 (by omega) (w.heap.size+1+1+1+1) n c A l _ bN.cell (hl.below hB0)) KpD.trans (fun W l o o' _ h hc _=>KpD.put W l o o' h hc) (Below.refl _ _) (fun _=>rfl)
  (fun pre W=>DownI w.heap.size n d l limb 25 147 (limb d) 147 pre W/\Below w.heap.size w W)
  (fun _ _ _=>False)
  (OwnFrom.and (Own.from (fun s X Y row hs hg hr=>hs.own hg hr) _) (ownFrom_below (Nat.le_refl _) (by simp;omega)))
  (fun cc=>Own.from (fun s X Y row hs hg hr=>hs) _)
  ⟨h0,hB0⟩
  (fun x=>{ tmps:=#[.slice A n c,limb d,undef,.pointer (some ⟨w.heap.size,0,none⟩),.slice none 0 0,.int .u32 0,.pointer (some ⟨w.heap.size+1+1,0,none⟩),.pointer (some ⟨w.heap.size+1+1+1,0,none⟩),.int .i64 (x.1:Int),limb (l[x.1]?.getD 0),.slice A n c,
   .int .i64 n,.slice (some ⟨w.heap.size+1,0,none⟩) n n,.slice A n c,.func (.func 226) #[] #[.pointer (some ⟨w.heap.size+1+1+1+1,0,none⟩)],.int .i64 (x.1:Int),limb (l[x.1]?.getD 0),
   undef,undef,undef,undef,undef,undef,undef,undef,undef,undef,undef,undef,undef],defers:=[] }) ?assign ?body ?done ?stop
 case assign =>
  intro l x W K hK;dsimp only [Zgr]
  gi_wp2
  exact hK
 case body =>
  rintro lp pre x W ⟨⟨o,r,k1,k2,k3,k4,k5,k6,k7,k8⟩,hB⟩ hpre;obtain ⟨i,hi'⟩:=x;have k8:=Za k8;have k5:=Za k5;have c1:=k1.cell 0;have c3:=k3.cell 0;have c4:=k4.cell 0;have f4:=k4.frozen 0;have c2:=k2.cell i;rw [Zai o i (by rw [k5.out];exact hi')] at c2;have f2:=k2.frozen i
  simp at c1 c3 c4
  have hx:=hl.lt.get i
  gi_wp2
  refine Zc5 [11] (fun W'=>W'.cell? ⟨w.heap.size,0,none⟩=some (limb d)/\W'.cell? ⟨w.heap.size+1+1,0,none⟩=some (.slice (some ⟨w.heap.size+1,0,none⟩) n n)/\W'.cell? ⟨w.heap.size+1+1+1,0,none⟩=some (limb r)) hmx (by kernel_rfl) ⟨c1,c3,c4⟩ (fun _=>?_);refine Zu5 5 [0,1,2,3,4] rfl (by kernel_rfl) ⟨c1,c3,c4⟩ ?_
  iterate 5 (refine tk1 (v:=?_) rfl (Or.inl ⟨by kernel_rfl,?_⟩) ?_;rotate_left;(· intro W2 hSw;(try dsimp only at hSw);go_simp;try with_reducible rfl);try simp only [Act.put,putL_a,putL_z,putL_s,putG_a,putG_s,putG_z])
  refine tk0 ?_;refine Ze (i:=5) rfl (by kernel_rfl) (fun K hK=>?_);go_simp;refine (Zl1 _ _ _ _ k7 hx hd).mono ?_;rintro e w2 ⟨rfl,rfl⟩;refine hK.out _ _ (fun _=>⟨c1,c3,c4⟩) ?_;clear hK K
  try simp only [Act.put,putL_a,putL_z,putL_s]
  refine Zu5 4 [6,7,9,8] rfl (by kernel_rfl) ⟨c1,c3,c4⟩ ?_
  iterate 4 (refine tk1 (v:=?_) rfl (Or.inl ⟨by kernel_rfl,?_⟩) ?_;rotate_left;(· intro W2 hSw;(try dsimp only at hSw);go_simp;try with_reducible rfl);try simp only [Act.put,putL_a,putL_z,putL_s,putG_a,putG_s,putG_z])
  refine tk0 ?_;refine Ze (i:=10) rfl (by kernel_rfl) (fun K hK=>?_);go_simp
  generalize hW5:World.drew (World.drew (World.setCell W _ _))=W5
  have c15:W5.cell? ⟨w.heap.size,0,none⟩=some (limb d):=by rw [<- hW5];exact (World.cell?_setCell_other _ _ _ _ (by simp)).trans c1
  have c35:W5.cell? ⟨w.heap.size+1+1,0,none⟩=some (.slice (some ⟨w.heap.size+1,0,none⟩) n n):=by rw [<- hW5];exact (World.cell?_setCell_other _ _ _ _ (by simp)).trans c3
  have c45:W5.cell? ⟨w.heap.size+1+1+1,0,none⟩=some (limb r):=by rw [<- hW5];exact (World.cell?_setCell_other _ _ _ _ (by simp)).trans c4
  have f45:W5.frozen? ⟨w.heap.size+1+1+1,0,none⟩=false:=by rw [<- hW5];exact (World.frozen?_setCell _ _ _ _).trans f4
  replace hW5:=Za hW5;refine hK.out _ _ (fun _=>⟨c15,c35,c45⟩) ?_;clear hK K
  try simp only [Act.put,putL_a,putL_z,putL_s]
  refine Zp (i:=11) rfl (by kernel_rfl) (by kernel_rfl) (fun K hK=>?_);go_simp;refine hK.out _ _ ?_;clear hK K
  try simp only [Act.put,putL_a,putL_z,putL_s]
  refine Zj (by kernel_rfl) ?_ _;refine OnlyNormal.normal ?_
  gi_wp2
  have e1:((r:Int) * 4294967296+((l[i]?.getD 0:Nat):Int)) / (d:Int)=(((r * 4294967296+l[i]?.getD 0) / d:Nat):Int):=by simp
  have e2:((r:Int) * 4294967296+((l[i]?.getD 0:Nat):Int)) % (d:Int)=(((r * 4294967296+l[i]?.getD 0) % d:Nat):Int):=by simp
  have hW5:=hW5.out;rw [e1] at hW5;rw [e2]
  have hq:(r * 4294967296+l[i]?.getD 0) / d < 4294967296:=by
   rw [Nat.div_lt_iff_lt_mul (by omega)];have:=Nat.mul_le_mul_left 4294967296 (show r+1 <= d by omega);omega
  have hr:(r * 4294967296+l[i]?.getD 0) % d < d:=Nat.mod_lt _ hd0
  have he:(r * 4294967296+l[i]?.getD 0) / d * d+(r * 4294967296+l[i]?.getD 0) % d=r * 4294967296+l[i]?.getD 0:=by rw [Nat.mul_comm];exact Nat.div_add_mod _ _
  generalize (r * 4294967296+l[i]?.getD 0) / d=q at *
  generalize (r * 4294967296+l[i]?.getD 0) % d=r' at *
  subst hW5;refine ⟨((KeepsOthers.setCell _ _ _).trans (KeepsOthers.drew _)).trans ((KeepsOthers.drew _).trans (KeepsOthers.setCell _ _ _)),(KpD.set_ (w:=w) (o:=i) hl (by omega) (by omega) (limb q)).trans (KpD.set_ (w:=w) (o:=0) hl (by omega) (by omega) (limb r')),?_,?_⟩
  ·refine DownI.step (x:=⟨i,hi'⟩) (((k1.far (by simp <;> omega) _).drewN 2).far (by simp <;> omega) _) ?_ (((k3.far (by simp <;> omega) _).drewN 2).far (by simp <;> omega) _) (((k4.far (by simp <;> omega) _).drewN 2).set_ 0 (limb r')) k5.out k6 hq hr hl.len hpre k8.out he
   have:=((k2.set_ i (limb q)).drewN 2).far (p:=⟨w.heap.size+1+1+1,0,none⟩) (by simp <;> omega) (limb r');rw [Zbq] at this;exact this
  ·exact (Zi (hB.setCell (p:=⟨w.heap.size+1,i,none⟩) (by simp) _) 2).setCell (p:=⟨w.heap.size+1+1+1,0,none⟩) (by simp;omega) _
 case done =>
  rintro D ys W hD rfl ⟨⟨o,r,k1,k2,k3,k4,k5,k6,k7,k8⟩,hB⟩ hK;have k8:=k8 (by rw [Zc3 (Nat.le_refl _)]);rw [Zc3 (Nat.le_refl _),Nat.sub_self,List.drop_zero,List.drop_zero] at k8;obtain ⟨e1,e2⟩:=Zmd (U:=val l) (V:=d) (q:=val o) (R:=r) (by omega) k7;have hLo:=Lim.of_blk k2 k6 (by rw [k5];unfold maxLen;omega);rw [k5] at hLo;have k8:=Za k8;have k5:=Za k5;have c3:=k3.cell 0;have c4:=k4.cell 0
  simp at c3 c4
  gi_wp2
  refine wpIn_wide.2 ?_
  go_quiet ((go_at_call 149;exact Calls.quiet_of (trim_q _ _ _ _ _ hLo)))
  gi_wp2
  have hK':(W.drewN nq).heap[D]?=some (.deferred (some [])):=hK;refine ⟨by simp,.inl ⟨_,_,rfl,run_takeDeferred hK',?_⟩⟩;have hL2:=Zjb (hLo.canon.1.drewN nq) (grownBy_putObj' (W.drewN nq) D (.deferred none)) (fun r e=>by cases e;exact ⟨_,hK',rfl⟩);rw [e1] at hL2;refine ⟨.tuple #[.slice (some ⟨w.heap.size+1,0,none⟩) (digits (val o)).length n,limb (val l % d)],by simp [results,Tryz.f205,go_sem],⟨_,_,_,by rw [e1],hL2,?_⟩⟩;exact (Zi hB nq).trans (belowK_b (w:=w) (Nat.le_refl _) _ D _ _ (by simp at hD;omega) hK' rfl rfl)
 case stop =>
  rintro D c pre W _ _ h _;exact h.elim
open Go.RowKit
theorem or_add {a b s:Nat} (hb:b < 2 ^ s):b ||| 2 ^ s * a=b+2 ^ s * a:=by
 have h2:=Nat.two_pow_add_eq_or_of_lt (i:=s) (b:=b) hb a;rw [Nat.or_comm,<- h2,Nat.add_comm]
def LeftP (w:World) (s:Nat) (l:List Nat) (i cy:Nat) (v:Value) (wr:World):Prop:=
 ∃ o,OwnL 147 wr w.heap.size v o/\o.length=i/\cy < 2 ^ s/\val o+pw i * cy=2 ^ s * val (l.take i)/\Below w.heap.size w wr
theorem Zon (A:Option Addr) (n c s:Nat) (l:List Nat) (w:World) (h:Lim w A n c l) (hs:s < 32) (hn9:n <= 1000000) :
    Calls Tryz.prog 150 #[.slice A n c,.int .i64 s] w (fun e w'=>∃ v o,e=.returned v/\OwnL 147 w' w.heap.size v o/\o.length=n+1/\val o=2 ^ s * val l/\Below w.heap.size w w'):=by
 obtain ⟨i0,hi,hz0,hz1,hz2⟩:=info_parts Zco;have hnc:=h.2.1;have hcm:=h.2.2.1;unfold maxLen at hcm
 have hmk:∀ W:World,(Instr.makeSlice 25 (.int .i64 0) (.int .i64 ((n:Int)+1))).run Tryz.prog W=.ok (.slice (some ⟨W.heap.size,0,none⟩) 0 (n+1)) (W.alloc (.cells (Zt (List.replicate (n+1) 0)) 147)):=fun W=>by
  have hr:=run_make (P:=Tryz.prog) W 25 147 i0 _ Tryz.underlying25 hi hz0 .i64 .i64 0 ((n:Int)+1) (by omega) (by omega) (by rw [hz2];omega) (by omega);rw [hr,hz1]
  have:madeCells (Value.int .u32 0).cells (((n:Int)+1).toNat * 1)=Zt (List.replicate (n+1) 0):=by
   rw [show ((n:Int)+1).toNat * 1=n+1 by omega]
   apply Array.toList_inj.1
   rw [show (Value.int .u32 0).cells=#[.int .u32 0] from rfl,toList_madeCells_one]
   simp [Zt,limb]
  rw [this,show ((n:Int)+1).toNat=n+1 by omega]
  rfl
 have hO:OwnL 147 (w.alloc (.cells (Zt (List.replicate (n+1) 0)) 147)) w.heap.size (.slice (some ⟨w.heap.size,0,none⟩) 0 (n+1)) []:=
  ⟨⟨rfl,.inr ⟨w.heap.size,n+1,_,rfl,Nat.le_refl _,heap_alloc_new _ _,Nat.zero_le _,by unfold maxLen;omega,by simp [Zt],by simp⟩⟩,Lt32.nil⟩
 have q3:((s:Int) / 32)=0:=by omega
 have q4:((s:Int) % 32)=(s:Int):=by omega
 go_enter Tryz.func150,Tryz.ntmps150;go_wp2_with fail
 go_loopw [20,6,5] (fun iv cv ov wr=>∃ i cy:Nat,i <= n/\iv=.int .i64 i/\cv=.int .u64 cy/\LeftP w s l i cy ov wr) (fun iv _ _ _=>n - (intOf iv).toNat)
 case atStart=>exact ⟨0,0,Nat.zero_le _,rfl,rfl,[],hO,rfl,Nat.pow_pos (by omega),by simp [val],(Below.refl _ _).alloc (Nat.le_refl _) _⟩
 case round =>
  obtain ⟨i,cy,hin,rfl,rfl,o,hown,hol,hcy,hI,hB⟩:=hrel;replace hol:=Za hol;replace hI:=Za hI
  by_cases hi':i < n
  ·obtain ⟨b,of,rfl,hcell⟩:=(h.below hB).at_ hi'
   have hx:=h.lt.get i;obtain ⟨p,hp⟩:∃ p,2 ^ s=p:=⟨_,rfl⟩
   have hpb:p <= 2147483648:=by rw [<- hp];exact Nat.pow_le_pow_right (by omega) (show s <= 31 by omega)
   have hxb:p * l[i]?.getD 0 <= 2147483648 * 4294967295:=Nat.mul_le_mul hpb (by omega)
   have hor:bits .or .u64 (cy:Int) (IntKind.u64.wrap (((l[i]?.getD 0:Nat):Int) * 2 ^ s))=((cy+p * l[i]?.getD 0:Nat):Int):=by
    have e1:(((l[i]?.getD 0:Nat):Int) * 2 ^ s)=((p * l[i]?.getD 0:Nat):Int):=by rw [<- hp];push_cast;rw [Int.mul_comm]
    have hcp:cy < 18446744073709551616:=by omega
    rw [e1,IntKind.wrap_u64,show (((p * l[i]?.getD 0:Nat):Int) % 18446744073709551616)=((p * l[i]?.getD 0:Nat):Int) by omega,u64_or_nat _ _ hcp (by omega),<- hp,or_add hcy]
   rw [hp] at hcy;replace hp:=Za hp;have hs0:Hid (val (l.take (i+1))=val (l.take i)+pw i * l[i]?.getD 0):=Z7 l i;obtain ⟨x,hxe⟩:∃ x,l[i]?.getD 0=x:=⟨_,rfl⟩;rw [hxe] at hcell hx hxb hor hs0;replace hxe:=Za hxe;obtain ⟨t,ht⟩:∃ t,cy+p * x=t:=⟨_,rfl⟩
   have htb:t / 4294967296 < p:=by
    rw [Nat.div_lt_iff_lt_mul (by omega),<- ht]
    have:p * x+p <= p * 4294967296:=by rw [<- Nat.mul_succ];exact Nat.mul_le_mul_left _ (by omega)
    omega
   rw [ht] at hor;replace ht:=Za ht;go_wp2_with (at_builtin;refine Zu _ rfl (.tmp 31) (.tmp 34) 25 rfl w.heap.size 147 i0 _ 1 4 Tryz.underlying25 hi hz0 hz1 hz2 rfl (by omega) _ i (o.map limb) rfl (by have:=hol.out;subst this;exact hown.1.alloc _) _ _ 1 1 _ rfl (Zbk _ _ _) (by simp [Value.oneCell']) (by simp only [maxLen];omega) (by omega) (by have:=hB.size;simp;omega) ?_;intro v1 w1 hown1 hg1 hat1);have hown2:OwnL 147 w1 w.heap.size v1 (o ++ [t % 4294967296]):=OwnL.snoc (s:=t % 4294967296) hol.out.symm hown1 hown.2 (by omega) (Nat.mod_lt _ (by decide));have hB1:=(hB.alloc hB.size _).grown hg1 (by have:=hB.size;simp;omega) hown.row_ge
   go_roundw
   case rel =>
    refine ⟨i+1,t / 4294967296,by omega,by go_num,by go_num,_,hown2,by rw [List.length_append,hol.out];rfl,by rw [hp.out];exact htb,?_,hB1⟩;rw [Zdv,hol.out,hs0.out,hp.out,Nat.mul_add,Zaq];have h1:=hI.out;rw [hp.out] at h1
    have h2:pw i * (t % 4294967296)+4294967296 * pw i * (t / 4294967296)=pw i * t:=by
     rw [Nat.mul_comm 4294967296 (pw i),Nat.mul_assoc,<- Nat.mul_add,Nat.mod_add_div]
    have h3:p * (pw i * x)=pw i * (p * x):=by rw [Nat.mul_left_comm]
    rw [h3,<- h1,Nat.add_assoc,h2,<- ht.out,Nat.mul_add];omega
   case measure=>simp [intOf];omega
  ·obtain rfl:i=n:=by omega
   have hlen:=Za h.len;have hcy2:cy < 4294967296:=Nat.lt_of_lt_of_le hcy (show 2 ^ s <= 4294967296 from Nat.le_trans (Nat.pow_le_pow_right (by decide) (show s <= 32 by omega)) (by decide))
   have hcm:((cy:Int)) % 4294967296=(cy:Int):=by omega
   clear h;go_wp2_with (at_builtin;refine Zu _ rfl (.tmp 39) (.tmp 42) 25 rfl w.heap.size 147 i0 _ 1 4 Tryz.underlying25 hi hz0 hz1 hz2 rfl (by omega) _ i (o.map limb) rfl (by have:=hol.out;subst this;exact hown.1.alloc _) _ _ 1 1 _ rfl (Zbk _ _ _) (by simp [Value.oneCell']) (by simp only [maxLen];omega) (by omega) (by have:=hB.size;simp;omega) ?_;intro v1 w1 hown1 hg1 hat1);have hown2:OwnL 147 w1 w.heap.size v1 (o ++ [cy]):=OwnL.snoc (s:=cy) hol.out.symm hown1 hown.2 (by omega) hcy2;have hB1:=(hB.alloc hB.size _).grown hg1 (by have:=hB.size;simp;omega) hown.row_ge;go_ret;refine ⟨v1,_,rfl,hown2,by rw [List.length_append,hol.out];rfl,?_,hB1⟩;rw [Zdv,hol.out,hI.out,Zab (by rw [hlen.out];exact Nat.le_refl _)]
theorem Zp2 (A:Option Addr) (c:Nat) (fn:Value) (w:World) :
    Calls Tryz.prog 225 #[.slice A 0 c,fn] w fun e w'=>e=.returned (.int .i64 (-1))/\w=w':=by
 go_enter Tryz.func225,Tryz.ntmps225;go_wp2_with fail
 go_loop [8] (fun v=>v=.int .i64 0) (fun _=>0)
 case atStart=>rfl
 case round =>
  subst hrel;go_wp2_with fail;go_ret;exact ⟨rfl,rfl⟩
theorem Zk8 (A:Option Addr) (c:Nat) (fn:Value) (w:World) :
    Calls Tryz.prog 208 #[.slice A 0 c,fn] w fun e w'=>e=.returned (.bool false)/\w=w':=by
 go_enter Tryz.func208,Tryz.ntmps208;go_wp2_with (go_at_call 225;refine (Zp2 _ _ _ _).mono ?_;rintro e w' ⟨rfl,rfl⟩);go_ret;exact ⟨rfl,rfl⟩
def RightP (w:World) (l:List Nat) (s:Nat) (e:Ending) (w':World):Prop:=
 ∃ A n c o b,e=.returned (.tuple #[.slice A n c,.bool b])/\Lim w' A n c o/\val o=val l / 2 ^ s/\Below w.heap.size w w'
theorem Zlb (A:Option Addr) (n c s:Nat) (l:List Nat) (w:World) (hl:Lim w A n c l) (hs:s < 32) (hn9:n <= 1000000) :
    Calls Tryz.prog 152 #[.slice A n c,.int .i64 s] w (RightP w l s):=by
 obtain ⟨i0,hi,hz0,hz1,hz2⟩:=info_parts Zco;have hmk:=Zeo (P:=Tryz.prog) 25 147 Tryz.underlying25 hi hz0 hz1 hz2 (n:Int) n rfl (by omega);have hnc:=hl.2.1;have hcm:=hl.2.2.1;unfold maxLen at hcm
 have q3:((s:Int) / 32)=0:=by omega
 have q4:((s:Int) % 32)=(s:Int):=by omega
 have h9:1 <= 9:=by omega
 refine (callsIn_wide (n:=9)).1 ?_;refine callsIn_of_wp_marks Tryz.func152 rfl trivial ?_ rfl;simp only [Tryz.ntmps152,List.size_toArray,List.length_cons,List.length_nil,Nat.reduceAdd,Nat.reduceSub,Array.replicate_succ,Array.replicate_zero,List.push_toArray,List.append_toArray,List.nil_append,List.cons_append]
 gi_wp2_with (first | (refine ⟨trivial,?_⟩;gi_at_call 208;refine (callsIn_wide.2 (Zk8 _ _ _ _)).mono ?_;rintro e w' ⟨rfl,rfl⟩) | (refine ⟨trivial,?_⟩;gi_at_call 210;refine (callsIn_wide.2 (Zjv _ _ _ _)).mono ?_;rintro e w' ⟨rfl,rfl⟩))
 have bD:=Blk.new w 3 #[.int .i64 (s:Int)];have bO:=Blk.new (w.alloc (.cells #[.int .i64 (s:Int)] 3)) 147 (Zt (List.replicate n 0));have b6:=Blk.new ((w.alloc (.cells #[.int .i64 (s:Int)] 3)).alloc (.cells (Zt (List.replicate n 0)) 147)) 25 #[(.slice (some ⟨w.heap.size+1,0,none⟩) n n)];have b7:=Blk.new (((w.alloc (.cells #[.int .i64 (s:Int)] 3)).alloc (.cells (Zt (List.replicate n 0)) 147)).alloc (.cells #[(.slice (some ⟨w.heap.size+1,0,none⟩) n n)] 25)) 148 #[.int .u64 0];have bN:=Boxed.new ((((w.alloc (.cells #[.int .i64 (s:Int)] 3)).alloc (.cells (Zt (List.replicate n 0)) 147)).alloc (.cells #[(.slice (some ⟨w.heap.size+1,0,none⟩) n n)] 25)).alloc (.cells #[.int .u64 0] 148)) 25 (.slice A n c);simp only [World.size_alloc] at bO b6 b7 bN
 have hB0:Below w.heap.size w (((((w.alloc (.cells #[.int .i64 (s:Int)] 3)).alloc (.cells (Zt (List.replicate n 0)) 147)).alloc (.cells #[(.slice (some ⟨w.heap.size+1,0,none⟩) n n)] 25)).alloc (.cells #[.int .u64 0] 148)).alloc (.cells #[.slice A n c] 25)):=by go_grown
 have h0:DownI w.heap.size n (2 ^ s) l (fun r=>.int .u64 (r:Int)) 25 148 (.int .i64 (s:Int)) 3 [] (((((w.alloc (.cells #[.int .i64 (s:Int)] 3)).alloc (.cells (Zt (List.replicate n 0)) 147)).alloc (.cells #[(.slice (some ⟨w.heap.size+1,0,none⟩) n n)] 25)).alloc (.cells #[.int .u64 0] 148)).alloc (.cells #[.slice A n c] 25)):=
  ⟨List.replicate n 0,0,(((bD.alloc _).alloc _).alloc _).alloc _,((bO.alloc _).alloc _).alloc _,(b6.alloc _).alloc _,b7.alloc _,by simp,Lt32.replicate _,Nat.pow_pos (by omega),fun _=>by rw [List.length_nil,Nat.sub_zero,List.drop_of_length_le (by simp),List.drop_of_length_le (by rw [hl.len];exact Nat.le_refl _)];simp [val]⟩
 have hmx:Tryz.prog.follows .mixedOrders=true:=by kernel_rfl
 refine wpIn_rangeFunc_ownF rfl h9 (gf:=226) (lb:=#[.pointer (some ⟨w.heap.size+1+1+1+1,0,none⟩)]) rfl trivial (enters_of Tryz.func226 (by kernel_rfl) rfl)
  (Zg6 8 (by omega) (w.heap.size+1+1+1+1) n c A l _ bN.cell (hl.below hB0)) KpD.trans (fun W l o o' _ h hc _=>KpD.put W l o o' h hc) (Below.refl _ _) (fun _=>rfl)
  (fun pre W=>DownI w.heap.size n (2 ^ s) l (fun r=>.int .u64 (r:Int)) 25 148 (.int .i64 (s:Int)) 3 pre W/\Below w.heap.size w W)
  (fun _ _ _=>False)
  (OwnFrom.and (Own.from (fun s X Y row hs hg hr=>hs.own hg hr) _) (ownFrom_below (Nat.le_refl _) (by simp;omega)))
  (fun cc=>Own.from (fun s X Y row hs hg hr=>hs) _)
  ⟨h0,hB0⟩
  (fun x=>{ tmps:=#[Value.slice A n c,Value.int IntKind.i64 (s:Int),undef,Value.pointer (some ⟨w.heap.size,0,none⟩),Value.slice none 0 0,Value.bool false,Value.int IntKind.i64 0,Value.bool false,Value.pointer (some ⟨w.heap.size+1+1,0,none⟩),Value.pointer (some ⟨w.heap.size+1+1+1,0,none⟩),.int .i64 (x.1:Int),limb (l[x.1]?.getD 0),Value.int IntKind.i64 (s:Int),Value.int IntKind.i64 0,Value.slice A n c,Value.int IntKind.i64 (n:Int),Value.int IntKind.i64 0,Value.slice A n c,Value.int IntKind.i64 0,Value.slice A 0 c,Value.bool false,Value.slice A n c,Value.int IntKind.i64 (n:Int),Value.int IntKind.i64 0,Value.int IntKind.i64 (n:Int),Value.slice (some ⟨w.heap.size+1,0,none⟩) n n,Value.slice A n c,Value.int IntKind.i64 0,Value.slice A n c,.func (.func 226) #[] #[.pointer (some ⟨w.heap.size+1+1+1+1,0,none⟩)],.int .i64 (x.1:Int),limb (l[x.1]?.getD 0),undef,undef,undef,undef,undef,undef,undef,undef,undef,undef,undef,undef,undef,undef,undef,undef,undef,undef,undef,undef,undef,undef,undef,undef,undef],defers:=[] }) ?assign ?body ?done ?stop
 case assign =>
  intro l x W K hK;dsimp only [Zgr]
  gi_wp2
  exact hK
 case body =>
  rintro lp pre x W ⟨⟨o,r,k1,k2,k3,k4,k5,k6,k7,k8⟩,hB⟩ hpre;obtain ⟨i,hi'⟩:=x;have k8:=Za k8;have k5:=Za k5;have c1:=k1.cell 0;have c3:=k3.cell 0;have c4:=k4.cell 0;have f4:=k4.frozen 0;have c2:=k2.cell i;rw [Zai o i (by rw [k5.out];exact hi')] at c2;have f2:=k2.frozen i
  simp at c1 c3 c4
  have hx:=hl.lt.get i;obtain ⟨p,hp⟩:∃ p,2 ^ s=p:=⟨_,rfl⟩
  have hp0:0 < p:=by rw [<- hp];exact Nat.pow_pos (by omega)
  have hpb:p <= 2147483648:=by rw [<- hp];exact Nat.pow_le_pow_right (by omega) (show s <= 31 by omega)
  rw [hp] at k7;obtain ⟨t,ht⟩:∃ t,r * 4294967296+l[i]?.getD 0=t:=⟨_,rfl⟩
  have htb:t < 9223372036854775808:=by omega
  have htq:t / p < 4294967296:=by
   rw [Nat.div_lt_iff_lt_mul hp0];have:=Nat.mul_le_mul_left 4294967296 (show r+1 <= p by omega);omega
  have hor:bits .or .u64 ((r:Int) * 4294967296) ((l[i]?.getD 0:Nat):Int)=(t:Int):=by
   have h1:((r:Int) * 4294967296)=((4294967296 * r:Nat):Int):=by omega
   rw [h1,u64_or_nat _ _ (by omega) (by omega)];have h2:=Nat.two_pow_add_eq_or_of_lt (i:=32) (b:=l[i]?.getD 0) (by omega) r;rw [show (2:Nat) ^ 32=4294967296 by rfl] at h2;rw [<- h2];omega
  have k7':r * 4294967296 < 9223372036854775808:=by omega
  have q5:((s:Int)).tmod 32=(s:Int):=by rw [Int.tmod_eq_emod_of_nonneg (by omega)];exact q4
  replace ht:=Za ht;replace hp:=Za hp;obtain ⟨wo,hwo⟩:∃ wo:World,wo=W:=⟨_,rfl⟩;replace hwo:=Za hwo
  gi_wp2
  generalize hW1:World.setCell W ⟨w.heap.size+1+1+1,0,none⟩ _=W1
  have a1:W1.cell? ⟨w.heap.size,0,none⟩=some (.int .i64 (s:Int)):=by rw [<- hW1];exact (World.cell?_setCell_other _ _ _ _ (by simp <;> omega)).trans c1
  have a2:W1.cell? ⟨w.heap.size+1,i,none⟩=some (limb (o[i]?.getD 0)):=by rw [<- hW1];exact (World.cell?_setCell_other _ _ _ _ (by simp <;> omega)).trans c2
  have a3:W1.cell? ⟨w.heap.size+1+1,0,none⟩=some (.slice (some ⟨w.heap.size+1,0,none⟩) n n):=by rw [<- hW1];exact (World.cell?_setCell_other _ _ _ _ (by simp <;> omega)).trans c3
  have a4:W1.cell? ⟨w.heap.size+1+1+1,0,none⟩=some (.int .u64 (t:Int)):=by rw [<- hW1];exact World.cell?_setCell_same _ _ _ c4
  have g2:W1.frozen? ⟨w.heap.size+1,i,none⟩=false:=by rw [<- hW1];exact (World.frozen?_setCell _ _ _ _).trans f2
  have g4:W1.frozen? ⟨w.heap.size+1+1+1,0,none⟩=false:=by rw [<- hW1];exact (World.frozen?_setCell _ _ _ _).trans f4
  replace hW1:=Za hW1;refine Zc5 [8] (fun W'=>W'.cell? ⟨w.heap.size,0,none⟩=some (.int .i64 (s:Int))/\W'.cell? ⟨w.heap.size+1+1,0,none⟩=some (.slice (some ⟨w.heap.size+1,0,none⟩) n n)/\W'.cell? ⟨w.heap.size+1+1+1,0,none⟩=some (.int .u64 (t:Int))) hmx (by kernel_rfl) ⟨a1,a3,a4⟩ (fun _=>?_);refine Zu5 8 [0,1,2,3,4,5,6,7] rfl (by kernel_rfl) ⟨a1,a3,a4⟩ ?_
  iterate 8 (refine tk1 (v:=?_) rfl (Or.inl ⟨by kernel_rfl,?_⟩) ?_;rotate_left;(· intro W2 hSw;(try dsimp only at hSw);go_simp;try with_reducible rfl);try simp only [Act.put,putL_a,putL_z,putL_s,putG_a,putG_s,putG_z])
  refine tk0 ?_;refine Zp (i:=8) rfl (by kernel_rfl) (by kernel_rfl) (fun K hK=>?_);go_simp;refine hK.out _ _ ?_;clear hK K
  try simp only [Act.put,putL_a,putL_z,putL_s]
  refine Zj (by kernel_rfl) ?_ _;refine OnlyNormal.normal ?_
  generalize hW2:World.drew (World.setCell W1 _ _)=W2
  have b1:W2.cell? ⟨w.heap.size,0,none⟩=some (.int .i64 (s:Int)):=by rw [<- hW2];exact (World.cell?_setCell_other _ _ _ _ (by simp <;> omega)).trans a1
  have b4:W2.cell? ⟨w.heap.size+1+1+1,0,none⟩=some (.int .u64 (t:Int)):=by rw [<- hW2];exact (World.cell?_setCell_other _ _ _ _ (by simp <;> omega)).trans a4
  have h4:W2.frozen? ⟨w.heap.size+1+1+1,0,none⟩=false:=by rw [<- hW2];exact (World.frozen?_setCell _ _ _ _).trans g4
  replace hW2:=Za hW2;clear a1 a2 a3 a4 g2 g4 c1 c2 c3 c4 f2 f4
  gi_wp2
  refine Zc5 [6] (fun W'=>W'.cell? ⟨w.heap.size,0,none⟩=some (.int .i64 (s:Int))/\W'.cell? ⟨w.heap.size+1+1+1,0,none⟩=some (.int .u64 (t:Int))) hmx (by kernel_rfl) ⟨b1,b4⟩ (fun _=>?_);refine Zu5 6 [0,1,2,3,4,5] rfl (by kernel_rfl) ⟨b1,b4⟩ ?_
  iterate 6 (refine tk1 (v:=?_) rfl (Or.inl ⟨by kernel_rfl,?_⟩) ?_;rotate_left;(· intro W2 hSw;(try dsimp only at hSw);go_simp;try with_reducible rfl);try simp only [Act.put,putL_a,putL_z,putL_s,putG_a,putG_s,putG_z])
  refine tk0 ?_;refine Zp (i:=6) rfl (by kernel_rfl) (by kernel_rfl) (fun K hK=>?_);go_simp;refine hK.out _ _ ?_;clear hK K
  try simp only [Act.put,putL_a,putL_z,putL_s]
  refine Zj (by kernel_rfl) ?_ _;refine OnlyNormal.normal ?_
  generalize hW3:World.drew (World.setCell W2 _ _)=W3
  gi_wp2
  have hp:=hp.out;have ht:=ht.out
  have z0:((2:Int) ^ s)=(p:Int):=by rw [<- hp];push_cast;rfl
  have z1:IntKind.u32.wrap ((t:Int) / 2 ^ s)=((t / p:Nat):Int):=by
   rw [z0,show (t:Int) / (p:Int)=((t / p:Nat):Int) from rfl]
   generalize t / p=z at *
   simp only [IntKind.wrap_u32];omega
  have z2:bits BinOp.and IntKind.u64 (t:Int) (IntKind.u64.wrap (IntKind.u64.wrap (2 ^ s) - 1))=((t % p:Nat):Int):=by
   rw [z0,show IntKind.u64.wrap (IntKind.u64.wrap (p:Int) - 1)=((p - 1:Nat):Int) by simp only [IntKind.wrap_u64];omega,u64_and_nat _ _ (by omega) (by omega),<- hp,Nat.and_two_pow_sub_one_eq_mod]
  have hW1:=hW1.out;have hW2:=hW2.out;rw [z1] at hW2;rw [z2] at hW3;have hr:t % p < p:=Nat.mod_lt _ hp0
  have he:t / p * p+t % p=r * 4294967296+l[i]?.getD 0:=by rw [ht,Nat.mul_comm];exact Nat.div_add_mod _ _
  generalize t / p=q at *
  generalize t % p=r' at *
  subst hp;subst hW1;subst hW2;subst hW3;refine ⟨((KeepsOthers.setCell _ _ _).trans ((KeepsOthers.setCell _ _ _).trans (KeepsOthers.drew _))).trans ((KeepsOthers.setCell _ _ _).trans (KeepsOthers.drew _)),((KpD.set_ (w:=w) (o:=0) hl (by omega) (by omega) (.int .u64 (t:Int))).trans (KpD.set_ (w:=w) (o:=i) hl (by omega) (by omega) (limb q))).trans (KpD.set_ (w:=w) (o:=0) hl (by omega) (by omega) (.int .u64 (r':Int))),?_,?_⟩
  ·refine DownI.step (x:=⟨i,hi'⟩) (((((k1.far (by simp <;> omega) _).far (by simp <;> omega) _).drewN 1).far (by simp <;> omega) _).drewN 1) ?_ (((((k3.far (by simp <;> omega) _).far (by simp <;> omega) _).drewN 1).far (by simp <;> omega) _).drewN 1) (((((k4.set_ 0 (.int .u64 (t:Int))).far (by simp <;> omega) _).drewN 1).set_ 0 (.int .u64 (r':Int))).drewN 1) k5.out k6 htq hr hl.len hpre k8.out he
   have:=((((k2.far (p:=⟨w.heap.size+1+1+1,0,none⟩) (by simp <;> omega) (.int .u64 (t:Int))).set_ i (limb q)).drewN 1).far (p:=⟨w.heap.size+1+1+1,0,none⟩) (by simp <;> omega) (.int .u64 (r':Int))).drewN 1;rw [Zbq] at this;exact this
  ·exact Zi ((Zi ((hB.setCell (p:=⟨w.heap.size+1+1+1,0,none⟩) (by simp <;> omega) _).setCell (p:=⟨w.heap.size+1,i,none⟩) (by simp <;> omega) _) 1).setCell (p:=⟨w.heap.size+1+1+1,0,none⟩) (by simp <;> omega) _) 1
 case done =>
  rintro D ys W hD rfl ⟨⟨o,r,k1,k2,k3,k4,k5,k6,k7,k8⟩,hB⟩ hK;have k8:=k8 (by rw [Zc3 (Nat.le_refl _)]);rw [Zc3 (Nat.le_refl _),Nat.sub_self,List.drop_zero,List.drop_zero] at k8;obtain ⟨e1,e2⟩:=Zmd (U:=val l) (V:=2 ^ s) (q:=val o) (R:=r) (by omega) k7;have hLo:=Lim.of_blk k2 k6 (by rw [k5];unfold maxLen;omega);rw [k5] at hLo;replace k8:=Za k8;replace k5:=Za k5;replace e1:=Za e1;clear e2;have c3:=k3.cell 0;have c4:=k4.cell 0
  simp at c3 c4
  gi_wp2
  refine wpIn_wide.2 ?_
  go_quiet (fail)
  gi_wp2
  have hK':(W.drewN nq).heap[D]?=some (.deferred (some [])):=hK;refine ⟨by simp,.inl ⟨_,_,rfl,run_takeDeferred hK',?_⟩⟩;have hL2:=Zjb (hLo.drewN nq) (grownBy_putObj' (W.drewN nq) D (.deferred none)) (fun r e=>by cases e;exact ⟨_,hK',rfl⟩);refine ⟨.tuple #[.slice (some ⟨w.heap.size+1,0,none⟩) n n,.bool (decide ((0:Int) < r))],by simp [results,Tryz.f152,go_sem],⟨_,_,_,_,_,rfl,hL2,e1.out,?_⟩⟩;exact (Zi hB nq).trans (belowK_b (w:=w) (Nat.le_refl _) _ D _ _ (by simp at hD;omega) hK' rfl rfl)
 case stop =>
  rintro D c pre W _ _ h _;exact h.elim
end Go.Proofs.YtaioanjcjijckaaGreat
