/- Package linear: the exchange of two rows. -/
import Derived.Test.YtigdclhagmnopaaGreatZq21
set_option maxRecDepth 100000
set_option maxHeartbeats 4000000
set_option linter.unusedSimpArgs false
set_option linter.unusedVariables false
namespace Go.Proofs.YtigdclhagmnopaaGreat
open Go.RowKit
attribute [local go_sem] Zh
theorem Ze6 {v:Value} (h:∀ x,v ≠ limb x):NoLimb #[v]:=fun i x=>by
 match i with
 | 0=>simpa using h x
 | i+1=>simp
theorem Zxe (gg gr ga gn go n cap q r:Nat) (ng:Bool) (vby:Value) (L:List RZ) (w:World) (h1:Blk w gg 91 #[.slice (some ⟨go,0,none⟩) n cap,vby]) (h2:Blk w gr 3 #[.int .i64 r]) (h3:Blk w ga 3 #[.int .i64 q]) (h4:Blk w gn 4 #[.bool ng])
    (hM:MatZ 89 43 w go L) (hn:L.length=n) (hq:q < n) (hr:r < n) (hqr:q ≠ r) (hd:gg ≠ go/\gr ≠ go/\ga ≠ go/\gn ≠ go) :
    Calls Tryz.prog 99 #[.pointer (some ⟨gg,0,none⟩),.pointer (some ⟨gr,0,none⟩),.pointer (some ⟨ga,0,none⟩),.pointer (some ⟨gn,0,none⟩)] w fun e w'=>e=.returned (.tuple #[]) /\
     MatZ 89 43 w' go (Zai L q r)/\Blk w' gn 4 #[.bool (!ng)]/\Kept (fun k=>k=go \/ k=gn) w w':=by
 have hmx:Tryz.prog.follows .mixedOrders=true:=by kernel_rfl
 obtain ⟨x,hx⟩:=Zcv (L:=L) (i:=q) (by omega);obtain ⟨y,hy⟩:=Zcv (L:=L) (i:=r) (by omega);obtain ⟨cx,zx⟩:=hM.cell hx;obtain ⟨cy,zy⟩:=hM.cell hy
 have c1:w.cell? ⟨gg,0,none⟩=some (.slice (some ⟨go,0,none⟩) n cap):=by rw [h1.cell];rfl
 have c2:w.cell? ⟨gr,0,none⟩=some (.int .i64 r):=by rw [h2.cell];rfl
 have c3:w.cell? ⟨ga,0,none⟩=some (.int .i64 q):=by rw [h3.cell];rfl
 have bq:(q:Int) < (n:Int):=by omega
 have br:(r:Int) < (n:Int):=by omega
 obtain ⟨zs,hbk⟩:=hM.1;have hbk1:Blk (w.setCell ⟨go,q,none⟩ (.slice (some ⟨y.g,0,none⟩) y.q.length y.q.length)) go 89 _:=hbk.set_ q (.slice (some ⟨y.g,0,none⟩) y.q.length y.q.length)
 have g1:(w.setCell ⟨go,q,none⟩ (.slice (some ⟨y.g,0,none⟩) y.q.length y.q.length)).cell? ⟨gg,0,none⟩=some (.slice (some ⟨go,0,none⟩) n cap):=by rw [(h1.far hd.1 _).cell];rfl
 have g2:(w.setCell ⟨go,q,none⟩ (.slice (some ⟨y.g,0,none⟩) y.q.length y.q.length)).cell? ⟨gr,0,none⟩=some (.int .i64 r):=by rw [(h2.far hd.2.1 _).cell];rfl
 have g3:(w.setCell ⟨go,q,none⟩ (.slice (some ⟨y.g,0,none⟩) y.q.length y.q.length)).cell? ⟨ga,0,none⟩=some (.int .i64 q):=by rw [(h3.far hd.2.2.1 _).cell];rfl
 have g4:(w.setCell ⟨go,q,none⟩ (.slice (some ⟨y.g,0,none⟩) y.q.length y.q.length)).cell? ⟨go,r,none⟩=some (.slice (some ⟨y.g,0,none⟩) y.q.length y.q.length):=by
  rw [hbk1.cell,Array.getElem?_setIfInBounds,if_neg hqr,<- hbk.cell];exact cy
 have z4:=hbk1.frozen r;obtain ⟨V,hV⟩:∃ V,((w.setCell ⟨go,q,none⟩ (.slice (some ⟨y.g,0,none⟩) y.q.length y.q.length)).setCell ⟨go,r,none⟩ (.slice (some ⟨x.g,0,none⟩) x.q.length x.q.length)).drew=V:=⟨_,rfl⟩;have hMV:Hid (MatZ 89 43 V go (Zai L q r)):=Za (by rw [<- hV];exact (hM.swap hx hy).below (Zf (Below.refl _ _) 1))
 have h4V:Blk V gn 4 #[.bool ng]:=by rw [<- hV];exact (h4.far hd.2.2.2 _).far hd.2.2.2 _
 have hKV:Hid (Kept (fun k=>k=go \/ k=gn) w V):=Za (by
  rw [<- hV]
  exact (((Kept.refl _ w).set_ (p:=⟨go,q,none⟩) (.inl (.inl rfl)) _).set_ (p:=⟨go,r,none⟩) (.inl (.inl rfl)) _).drewN 1)
 have c5:V.cell? ⟨gn,0,none⟩=some (.bool ng):=by rw [h4V.cell];rfl
 have z5:=h4V.frozen 0;replace h4V:=Za h4V;replace hbk:=Za hbk;replace hbk1:=Za hbk1;clear hM h1 h2 h3 h4;go_enter Tryz.func99,Tryz.ntmps99;go_wp2_with fail;have hS0:w.drew.cell? ⟨gg,0,none⟩=some (.slice (some ⟨go,0,none⟩) n cap)/\w.drew.cell? ⟨gr,0,none⟩=some (.int .i64 r)/\w.drew.cell? ⟨ga,0,none⟩=some (.int .i64 q)/\w.drew.cell? ⟨go,r,none⟩=some (.slice (some ⟨y.g,0,none⟩) y.q.length y.q.length):=⟨c1,c2,c3,cy⟩;have hS1:(w.setCell ⟨go,q,none⟩ (.slice (some ⟨y.g,0,none⟩) y.q.length y.q.length)).drew.cell? ⟨gg,0,none⟩=some (.slice (some ⟨go,0,none⟩) n cap)/\(w.setCell ⟨go,q,none⟩ (.slice (some ⟨y.g,0,none⟩) y.q.length y.q.length)).drew.cell? ⟨gr,0,none⟩=some (.int .i64 r)/\(w.setCell ⟨go,q,none⟩ (.slice (some ⟨y.g,0,none⟩) y.q.length y.q.length)).drew.cell? ⟨ga,0,none⟩=some (.int .i64 q)/\(w.setCell ⟨go,q,none⟩ (.slice (some ⟨y.g,0,none⟩) y.q.length y.q.length)).drew.cell? ⟨go,r,none⟩=some (.slice (some ⟨y.g,0,none⟩) y.q.length y.q.length):=⟨g1,g2,g3,g4⟩;refine Zaj [19] (fun wx=>wx.cell? ⟨gg,0,none⟩=some (.slice (some ⟨go,0,none⟩) n cap)/\wx.cell? ⟨gr,0,none⟩=some (.int .i64 r)/\wx.cell? ⟨ga,0,none⟩=some (.int .i64 q)/\wx.cell? ⟨go,r,none⟩=some (.slice (some ⟨y.g,0,none⟩) y.q.length y.q.length)) hmx hS0 (fun hxs=>?_);refine Zi4 15 [0,1,2,3,4,5,6,7,8,9,10,11,12,13,14] rfl (by kernel_rfl) hS0 ?_
 iterate 15 (refine tk1 (v:=?_) rfl (Or.inl ⟨by kernel_rfl,?_⟩) ?_;rotate_left;(· intro W2 hSw;(try dsimp only at hSw);go_simp;try with_reducible rfl);try simp only [Act.put,Zgj,Zfx,Zge,putG_a,putG_s,putG_z])
 refine tk0 ?_;have cx':w.drew.cell? ⟨go,q,none⟩=some (.slice (some ⟨x.g,0,none⟩) x.q.length x.q.length):=cx;have zx':w.drew.frozen? ⟨go,q,none⟩=false:=zx;refine Ze (i:=15) rfl (by kernel_rfl) (fun K hK=>?_);go_simp;refine hK.out _ _ (fun _=>hS0) ?_;clear hK K
 try simp only [Act.put,Zgj,Zfx,Zge]
 refine Zfy 1 [16] rfl (by kernel_rfl) hS0 ?_
 (refine tk1 (v:=?_) rfl (Or.inl ⟨by kernel_rfl,?_⟩) ?_;rotate_left;(· intro W2 _;go_simp;try with_reducible rfl);try simp only [Act.put,Zgj,Zfx,Zge,putG_a,putG_s,putG_z])
 refine tk0 ?_;refine Ze (i:=17) rfl (by kernel_rfl) (fun K hK=>?_);go_simp;refine hK.out _ _ (fun _=>hS1) ?_;clear hK K
 try simp only [Act.put,Zgj,Zfx,Zge]
 refine Zfy 1 [18] rfl (by kernel_rfl) hS1 ?_
 (refine tk1 (v:=?_) rfl (Or.inl ⟨by kernel_rfl,?_⟩) ?_;rotate_left;(· intro W2 _;go_simp;try with_reducible rfl);try simp only [Act.put,Zgj,Zfx,Zge,putG_a,putG_s,putG_z])
 refine tk0 ?_;refine Zu (i:=19) rfl (by kernel_rfl) (by kernel_rfl) (fun K hK=>?_);go_simp;(try rw [hV]);refine hK.out _ _ ?_;clear hK K
 try simp only [Act.put,Zgj,Zfx,Zge]
 refine Zk (by kernel_rfl) ?_ _;refine OnlyNormal.normal ?_;clear hV hS0 hS1 hxs cx' zx' g1 g2 g3 g4 z4 c1 c2 c3 cx cy zx zy;obtain ⟨V2,hV2⟩:∃ V2,V.setCell ⟨gn,0,none⟩ (.bool (!ng))=V2:=⟨_,rfl⟩;have hb5:Hid (Blk V2 gn 4 #[.bool (!ng)]):=Za (by rw [<- hV2];exact h4V.out.set_ 0 (.bool (!ng)))
 have hM5:Hid (MatZ 89 43 V2 go (Zai L q r)):=Za (by
  rw [<- hV2];have hk0:Kept (fun k=>k=gn) V (V.setCell ⟨gn,0,none⟩ (.bool (!ng))):=(Kept.refl (fun k=>k=gn) V).set_ (p:=⟨gn,0,none⟩) (.inl rfl) _;refine hMV.out.keptG hk0 (fun e=>hd.2.2.2 e.symm) (fun s hs e=>?_) (fun k hk=>⟨_,_,(hk ▸ h4V.out:Blk V k 4 #[.bool ng]),Ze6 (fun x=>by simp)⟩);obtain ⟨es,q1,-,-⟩:=(hMV.out.2.1 s hs).1;rw [e] at q1;have:=q1.type h4V.out
  revert this;decide)
 have hK5:Hid (Kept (fun k=>k=go \/ k=gn) w V2):=Za (by rw [<- hV2];exact hKV.out.set_ (p:=⟨gn,0,none⟩) (.inl (.inr rfl)) _);go_wp2_with fail;(try rw [hV2]);go_returns;exact ⟨rfl,hM5.out,hb5.out,hK5.out⟩
end Go.Proofs.YtigdclhagmnopaaGreat
