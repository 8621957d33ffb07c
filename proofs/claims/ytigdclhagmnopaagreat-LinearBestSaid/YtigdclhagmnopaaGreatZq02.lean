/- Package wide: right, by less than 32 binary digits. -/
import Derived.Test.YtigdclhagmnopaaGreatZq01
set_option maxRecDepth 100000
set_option maxHeartbeats 2000000
set_option linter.unusedSimpArgs false
set_option linter.unusedVariables false
namespace Go.Proofs.YtigdclhagmnopaaGreat
open Go.RowKit Go.Shelf
attribute [local go_sem] Zh
attribute [local go_sem] Oper.semAt_some
theorem Zr4 (A:Option Addr) (c:Nat) (fn:Value) (w:World) :
    Calls Tryz.prog 186 #[.slice A 0 c,fn] w fun e w'=>e=.returned (.int .i64 (-1))/\w=w':=by
 go_enter Tryz.func186,Tryz.ntmps186;go_wp2_with fail
 go_loop [8] (fun v=>v=.int .i64 0) (fun _=>0)
 case atStart=>rfl
 case round =>
  subst hrel;go_wp2_with fail;go_ret;exact ⟨rfl,rfl⟩
theorem Zmt (A:Option Addr) (c:Nat) (fn:Value) (w:World) :
    Calls Tryz.prog 181 #[.slice A 0 c,fn] w fun e w'=>e=.returned (.bool false)/\w=w':=by
 go_enter Tryz.func181,Tryz.ntmps181;go_wp2_with (go_at_call 186;refine (Zr4 _ _ _ _).mono ?_;rintro e w' ⟨rfl,rfl⟩);go_ret;exact ⟨rfl,rfl⟩
def RightP (w:World) (l:List Nat) (s:Nat) (e:Ending) (w':World):Prop:=
 ∃ A n c o b,e=.returned (.tuple #[.slice A n c,.bool b])/\Lim w' A n c o/\val o=val l / 2 ^ s/\Below w.heap.size w w'
theorem Zth (A:Option Addr) (n c s:Nat) (l:List Nat) (w:World) (hl:Lim w A n c l) (hs:s < 32) (hn9:n <= 1000000) :
    Calls Tryz.prog 171 #[.slice A n c,.int .i64 s] w (RightP w l s):=by
 obtain ⟨i0,hi,hz0,hz1,hz2⟩:=info_parts Zcz;have hmk:=Zf4 (P:=Tryz.prog) 41 84 Tryz.underlying41 hi hz0 hz1 hz2 (n:Int) n rfl (by omega);have hnc:=hl.2.1;have hcm:=hl.2.2.1;unfold maxLen at hcm
 have q3:((s:Int) / 32)=0:=by omega
 have q4:((s:Int) % 32)=(s:Int):=by omega
 have h9:1 <= 9:=by omega
 refine (callsIn_wide (n:=9)).1 ?_;refine callsIn_of_wp_marks Tryz.func171 rfl trivial ?_ rfl;simp only [Tryz.ntmps171,List.size_toArray,List.length_cons,List.length_nil,Nat.reduceAdd,Nat.reduceSub,Array.replicate_succ,Array.replicate_zero,List.push_toArray,List.append_toArray,List.nil_append,List.cons_append]
 gi_wp2_with (first | (refine ⟨trivial,?_⟩;gi_at_call 181;refine (callsIn_wide.2 (Zmt _ _ _ _)).mono ?_;rintro e w' ⟨rfl,rfl⟩) | (refine ⟨trivial,?_⟩;gi_at_call 177;refine (callsIn_wide.2 (Zlg _ _ _ _)).mono ?_;rintro e w' ⟨rfl,rfl⟩))
 have bD:=Blk.new w 3 #[.int .i64 (s:Int)];have bO:=Blk.new (w.alloc (.cells #[.int .i64 (s:Int)] 3)) 84 (Z0 (List.replicate n 0));have b6:=Blk.new ((w.alloc (.cells #[.int .i64 (s:Int)] 3)).alloc (.cells (Z0 (List.replicate n 0)) 84)) 41 #[(.slice (some ⟨w.heap.size+1,0,none⟩) n n)];have b7:=Blk.new (((w.alloc (.cells #[.int .i64 (s:Int)] 3)).alloc (.cells (Z0 (List.replicate n 0)) 84)).alloc (.cells #[(.slice (some ⟨w.heap.size+1,0,none⟩) n n)] 41)) 128 #[.int .u64 0];have bN:=Boxed.new ((((w.alloc (.cells #[.int .i64 (s:Int)] 3)).alloc (.cells (Z0 (List.replicate n 0)) 84)).alloc (.cells #[(.slice (some ⟨w.heap.size+1,0,none⟩) n n)] 41)).alloc (.cells #[.int .u64 0] 128)) 41 (.slice A n c);simp only [World.size_alloc] at bO b6 b7 bN
 have hB0:Below w.heap.size w (((((w.alloc (.cells #[.int .i64 (s:Int)] 3)).alloc (.cells (Z0 (List.replicate n 0)) 84)).alloc (.cells #[(.slice (some ⟨w.heap.size+1,0,none⟩) n n)] 41)).alloc (.cells #[.int .u64 0] 128)).alloc (.cells #[.slice A n c] 41)):=by go_grown
 have h0:DownI w.heap.size n (2 ^ s) l (fun r=>.int .u64 (r:Int)) 41 128 (.int .i64 (s:Int)) 3 [] (((((w.alloc (.cells #[.int .i64 (s:Int)] 3)).alloc (.cells (Z0 (List.replicate n 0)) 84)).alloc (.cells #[(.slice (some ⟨w.heap.size+1,0,none⟩) n n)] 41)).alloc (.cells #[.int .u64 0] 128)).alloc (.cells #[.slice A n c] 41)):=
  ⟨List.replicate n 0,0,(((bD.alloc _).alloc _).alloc _).alloc _,((bO.alloc _).alloc _).alloc _,(b6.alloc _).alloc _,b7.alloc _,by simp,Lt32.replicate _,Nat.pow_pos (by omega),fun _=>by rw [List.length_nil,Nat.sub_zero,List.drop_of_length_le (by simp),List.drop_of_length_le (by rw [hl.len];exact Nat.le_refl _)];simp [val]⟩
 have hmx:Tryz.prog.follows .mixedOrders=true:=by kernel_rfl
 refine wpIn_rangeFunc_ownF rfl h9 (gf:=185) (lb:=#[.pointer (some ⟨w.heap.size+1+1+1+1,0,none⟩)]) rfl trivial (enters_of Tryz.func185 (by kernel_rfl) rfl)
  (Zih 8 (by omega) (w.heap.size+1+1+1+1) n c A l _ bN.cell (hl.below hB0)) KpD.trans (fun W l o o' _ h hc _=>KpD.put W l o o' h hc) (Below.refl _ _) (fun _=>rfl)
  (fun pre W=>DownI w.heap.size n (2 ^ s) l (fun r=>.int .u64 (r:Int)) 41 128 (.int .i64 (s:Int)) 3 pre W/\Below w.heap.size w W)
  (fun _ _ _=>False)
  (OwnFrom.and (Own.from (fun s X Y row hs hg hr=>hs.own hg hr) _) (ownFrom_below (Nat.le_refl _) (by simp;omega)))
  (fun cc=>Own.from (fun s X Y row hs hg hr=>hs) _)
  ⟨h0,hB0⟩
  (fun x=>{ tmps:=#[Value.slice A n c,Value.int IntKind.i64 (s:Int),undef,Value.pointer (some ⟨w.heap.size,0,none⟩),Value.slice none 0 0,Value.bool false,Value.int IntKind.i64 0,Value.bool false,Value.pointer (some ⟨w.heap.size+1+1,0,none⟩),Value.pointer (some ⟨w.heap.size+1+1+1,0,none⟩),.int .i64 (x.1:Int),limb (l[x.1]?.getD 0),Value.int IntKind.i64 (s:Int),Value.int IntKind.i64 0,Value.slice A n c,Value.int IntKind.i64 (n:Int),Value.int IntKind.i64 0,Value.slice A n c,Value.int IntKind.i64 0,Value.slice A 0 c,Value.bool false,Value.slice A n c,Value.int IntKind.i64 (n:Int),Value.int IntKind.i64 0,Value.int IntKind.i64 (n:Int),Value.slice (some ⟨w.heap.size+1,0,none⟩) n n,Value.slice A n c,Value.int IntKind.i64 0,Value.slice A n c,.func (.func 185) #[] #[.pointer (some ⟨w.heap.size+1+1+1+1,0,none⟩)],.int .i64 (x.1:Int),limb (l[x.1]?.getD 0),undef,undef,undef,undef,undef,undef,undef,undef,undef,undef,undef,undef,undef,undef,undef,undef,undef,undef,undef,undef,undef,undef,undef,undef,undef],defers:=[] }) ?assign ?body ?done ?stop
 case assign =>
  intro l x W K hK;dsimp only [Zhv]
  gi_wp2
  exact hK
 case body =>
  rintro lp pre x W ⟨⟨o,r,k1,k2,k3,k4,k5,k6,k7,k8⟩,hB⟩ hpre;obtain ⟨i,hi'⟩:=x;have k8:=Za k8;have k5:=Za k5;have c1:=k1.cell 0;have c3:=k3.cell 0;have c4:=k4.cell 0;have f4:=k4.frozen 0;have c2:=k2.cell i;rw [Zaq o i (by rw [k5.out];exact hi')] at c2;have f2:=k2.frozen i
  simp at c1 c3 c4
  have hx:=hl.lt.get i;obtain ⟨p,hp⟩:∃ p,2 ^ s=p:=⟨_,rfl⟩
  have hp0:0 < p:=by rw [<- hp];exact Nat.pow_pos (by omega)
  have hpb:p <= 2147483648:=by rw [<- hp];exact Nat.pow_le_pow_right (by omega) (show s <= 31 by omega)
  rw [hp] at k7;obtain ⟨t,ht⟩:∃ t,r * 4294967296+l[i]?.getD 0=t:=⟨_,rfl⟩
  have htb:t < 9223372036854775808:=by omega
  have htq:t / p < 4294967296:=by
   rw [Nat.div_lt_iff_lt_mul hp0];have:=Nat.mul_le_mul_left 4294967296 (show r+1 <= p by omega);omega
  have hor:bits .or .u64 ((r:Int) * 4294967296) ((l[i]?.getD 0:Nat):Int)=(t:Int):=by
   have h1:((r:Int) * 4294967296)=((4294967296 * r:Nat):Int):=by omega
   rw [h1,u64_or_nat _ _ (by omega) (by omega)];have h2:=Nat.two_pow_add_eq_or_of_lt (i:=32) (b:=l[i]?.getD 0) (by omega) r;rw [show (2:Nat) ^ 32=4294967296 by rfl] at h2;rw [<- h2];omega
  have k7':r * 4294967296 < 9223372036854775808:=by omega
  have q5:((s:Int)).tmod 32=(s:Int):=by rw [Int.tmod_eq_emod_of_nonneg (by omega)];exact q4
  replace ht:=Za ht;replace hp:=Za hp;obtain ⟨wo,hwo⟩:∃ wo:World,wo=W:=⟨_,rfl⟩;replace hwo:=Za hwo
  gi_wp2
  generalize hW1:World.setCell W ⟨w.heap.size+1+1+1,0,none⟩ _=W1
  have a1:W1.cell? ⟨w.heap.size,0,none⟩=some (.int .i64 (s:Int)):=by rw [<- hW1];exact (World.cell?_setCell_other _ _ _ _ (by simp <;> omega)).trans c1
  have a2:W1.cell? ⟨w.heap.size+1,i,none⟩=some (limb (o[i]?.getD 0)):=by rw [<- hW1];exact (World.cell?_setCell_other _ _ _ _ (by simp <;> omega)).trans c2
  have a3:W1.cell? ⟨w.heap.size+1+1,0,none⟩=some (.slice (some ⟨w.heap.size+1,0,none⟩) n n):=by rw [<- hW1];exact (World.cell?_setCell_other _ _ _ _ (by simp <;> omega)).trans c3
  have a4:W1.cell? ⟨w.heap.size+1+1+1,0,none⟩=some (.int .u64 (t:Int)):=by rw [<- hW1];exact World.cell?_setCell_same _ _ _ c4
  have g2:W1.frozen? ⟨w.heap.size+1,i,none⟩=false:=by rw [<- hW1];exact (World.frozen?_setCell _ _ _ _).trans f2
  have g4:W1.frozen? ⟨w.heap.size+1+1+1,0,none⟩=false:=by rw [<- hW1];exact (World.frozen?_setCell _ _ _ _).trans f4
  replace hW1:=Za hW1;refine Za7 [8] (fun W'=>W'.cell? ⟨w.heap.size,0,none⟩=some (.int .i64 (s:Int))/\W'.cell? ⟨w.heap.size+1+1,0,none⟩=some (.slice (some ⟨w.heap.size+1,0,none⟩) n n)/\W'.cell? ⟨w.heap.size+1+1+1,0,none⟩=some (.int .u64 (t:Int))) hmx (by kernel_rfl) ⟨a1,a3,a4⟩ (fun _=>?_);refine Zi4 8 [0,1,2,3,4,5,6,7] rfl (by kernel_rfl) ⟨a1,a3,a4⟩ ?_
  iterate 8 (refine tk1 (v:=?_) rfl (Or.inl ⟨by kernel_rfl,?_⟩) ?_;rotate_left;(· intro W2 hSw;(try dsimp only at hSw);go_simp;try with_reducible rfl);try simp only [Act.put,Zgj,Zfx,Zge,putG_a,putG_s,putG_z])
  refine tk0 ?_;refine Zu (i:=8) rfl (by kernel_rfl) (by kernel_rfl) (fun K hK=>?_);go_simp;refine hK.out _ _ ?_;clear hK K
  try simp only [Act.put,Zgj,Zfx,Zge]
  refine Zk (by kernel_rfl) ?_ _;refine OnlyNormal.normal ?_
  generalize hW2:World.drew (World.setCell W1 _ _)=W2
  have b1:W2.cell? ⟨w.heap.size,0,none⟩=some (.int .i64 (s:Int)):=by rw [<- hW2];exact (World.cell?_setCell_other _ _ _ _ (by simp <;> omega)).trans a1
  have b4:W2.cell? ⟨w.heap.size+1+1+1,0,none⟩=some (.int .u64 (t:Int)):=by rw [<- hW2];exact (World.cell?_setCell_other _ _ _ _ (by simp <;> omega)).trans a4
  have h4:W2.frozen? ⟨w.heap.size+1+1+1,0,none⟩=false:=by rw [<- hW2];exact (World.frozen?_setCell _ _ _ _).trans g4
  replace hW2:=Za hW2;clear a1 a2 a3 a4 g2 g4 c1 c2 c3 c4 f2 f4
  gi_wp2
  refine Za7 [6] (fun W'=>W'.cell? ⟨w.heap.size,0,none⟩=some (.int .i64 (s:Int))/\W'.cell? ⟨w.heap.size+1+1+1,0,none⟩=some (.int .u64 (t:Int))) hmx (by kernel_rfl) ⟨b1,b4⟩ (fun _=>?_);refine Zi4 6 [0,1,2,3,4,5] rfl (by kernel_rfl) ⟨b1,b4⟩ ?_
  iterate 6 (refine tk1 (v:=?_) rfl (Or.inl ⟨by kernel_rfl,?_⟩) ?_;rotate_left;(· intro W2 hSw;(try dsimp only at hSw);go_simp;try with_reducible rfl);try simp only [Act.put,Zgj,Zfx,Zge,putG_a,putG_s,putG_z])
  refine tk0 ?_;refine Zu (i:=6) rfl (by kernel_rfl) (by kernel_rfl) (fun K hK=>?_);go_simp;refine hK.out _ _ ?_;clear hK K
  try simp only [Act.put,Zgj,Zfx,Zge]
  refine Zk (by kernel_rfl) ?_ _;refine OnlyNormal.normal ?_
  generalize hW3:World.drew (World.setCell W2 _ _)=W3
  gi_wp2
  have hp:=hp.out;have ht:=ht.out
  have z0:((2:Int) ^ s)=(p:Int):=by rw [<- hp];push_cast;rfl
  have z1:IntKind.u32.wrap ((t:Int) / 2 ^ s)=((t / p:Nat):Int):=by
   rw [z0,show (t:Int) / (p:Int)=((t / p:Nat):Int) from rfl]
   generalize t / p=z at *
   simp only [IntKind.wrap_u32];omega
  have z2:bits BinOp.and IntKind.u64 (t:Int) (IntKind.u64.wrap (IntKind.u64.wrap (2 ^ s) - 1))=((t % p:Nat):Int):=by
   rw [z0,show IntKind.u64.wrap (IntKind.u64.wrap (p:Int) - 1)=((p - 1:Nat):Int) by simp only [IntKind.wrap_u64];omega,u64_and_nat _ _ (by omega) (by omega),<- hp,Nat.and_two_pow_sub_one_eq_mod]
  have hW1:=hW1.out;have hW2:=hW2.out;rw [z1] at hW2;rw [z2] at hW3;have hr:t % p < p:=Nat.mod_lt _ hp0
  have he:t / p * p+t % p=r * 4294967296+l[i]?.getD 0:=by rw [ht,Nat.mul_comm];exact Nat.div_add_mod _ _
  generalize t / p=q at *
  generalize t % p=r' at *
  subst hp;subst hW1;subst hW2;subst hW3;refine ⟨((KeepsOthers.setCell _ _ _).trans ((KeepsOthers.setCell _ _ _).trans (KeepsOthers.drew _))).trans ((KeepsOthers.setCell _ _ _).trans (KeepsOthers.drew _)),((KpD.set_ (w:=w) (o:=0) hl (by omega) (by omega) (.int .u64 (t:Int))).trans (KpD.set_ (w:=w) (o:=i) hl (by omega) (by omega) (limb q))).trans (KpD.set_ (w:=w) (o:=0) hl (by omega) (by omega) (.int .u64 (r':Int))),?_,?_⟩
  ·refine DownI.step (x:=⟨i,hi'⟩) (((((k1.far (by simp <;> omega) _).far (by simp <;> omega) _).drewN 1).far (by simp <;> omega) _).drewN 1) ?_ (((((k3.far (by simp <;> omega) _).far (by simp <;> omega) _).drewN 1).far (by simp <;> omega) _).drewN 1) (((((k4.set_ 0 (.int .u64 (t:Int))).far (by simp <;> omega) _).drewN 1).set_ 0 (.int .u64 (r':Int))).drewN 1) k5.out k6 htq hr hl.len hpre k8.out he
   have:=((((k2.far (p:=⟨w.heap.size+1+1+1,0,none⟩) (by simp <;> omega) (.int .u64 (t:Int))).set_ i (limb q)).drewN 1).far (p:=⟨w.heap.size+1+1+1,0,none⟩) (by simp <;> omega) (.int .u64 (r':Int))).drewN 1;rw [Zbu] at this;exact this
  ·exact Zf ((Zf ((hB.setCell (p:=⟨w.heap.size+1+1+1,0,none⟩) (by simp <;> omega) _).setCell (p:=⟨w.heap.size+1,i,none⟩) (by simp <;> omega) _) 1).setCell (p:=⟨w.heap.size+1+1+1,0,none⟩) (by simp <;> omega) _) 1
 case done =>
  rintro D ys W hD rfl ⟨⟨o,r,k1,k2,k3,k4,k5,k6,k7,k8⟩,hB⟩ hK;have k8:=k8 (by rw [Zc3 (Nat.le_refl _)]);rw [Zc3 (Nat.le_refl _),Nat.sub_self,List.drop_zero,List.drop_zero] at k8;obtain ⟨e1,e2⟩:=Zn5 (U:=val l) (V:=2 ^ s) (q:=val o) (R:=r) (by omega) k7;have hLo:=Lim.of_blk k2 k6 (by rw [k5];unfold maxLen;omega);rw [k5] at hLo;replace k8:=Za k8;replace k5:=Za k5;replace e1:=Za e1;clear e2;have c3:=k3.cell 0;have c4:=k4.cell 0
  simp at c3 c4
  gi_wp2
  refine wpIn_wide.2 ?_
  go_quiet (fail)
  gi_wp2
  have hK':(W.drewN nq).heap[D]?=some (.deferred (some [])):=hK;refine ⟨by simp,.inl ⟨_,_,rfl,run_takeDeferred hK',?_⟩⟩;have hL2:=Zgs (hLo.drewN nq) (grownBy_putObj' (W.drewN nq) D (.deferred none)) (fun r e=>by cases e;exact ⟨_,hK',rfl⟩);refine ⟨.tuple #[.slice (some ⟨w.heap.size+1,0,none⟩) n n,.bool (decide ((0:Int) < r))],by simp [results,Tryz.f171,go_sem],⟨_,_,_,_,_,rfl,hL2,e1.out,?_⟩⟩;exact (Zf hB nq).trans (belowK_b (w:=w) (Nat.le_refl _) _ D _ _ (by simp at hD;omega) hK' rfl rfl)
 case stop =>
  rintro D c pre W _ _ h _;exact h.elim
end Go.Proofs.YtigdclhagmnopaaGreat
