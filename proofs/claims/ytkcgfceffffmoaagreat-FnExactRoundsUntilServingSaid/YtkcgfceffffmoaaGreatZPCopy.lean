/- Copies of clusters; the version of a server. -/
import Derived.Test.YtkcgfceffffmoaaGreatZPNew
import Derived.Test.YtkcgfceffffmoaaGreatZPMk
namespace Go.Proofs.YtkcgfceffffmoaaGreat.En
open Go
theorem Qm {n c:Nat} (h:n<=1048577) (hc:c<=1000):n*c<=2 ^ 40:=by
 have h1:n*c<=1048577*1000:=Nat.mul_le_mul h hc;have h2: (2:Nat) ^ 40=1099511627776:=by decide
 omega
theorem Hm (c:dW) (h:nm 1048576 c):o9 c=some (c,())/\jz c=some (c,()):=by
 have a:=h.1;have b:=h.2;unfold o9 FI jz vC;simp only [bq,ez,if_pos (Qm (ci a) (show 8<=1000 by decide)),if_pos (Qm (ci b) (show 8<=1000 by decide))];exact⟨trivial,trivial⟩
theorem CY (l:List ed) (h:l.length<=1048576):mY l=some (l,())/\iI l=some (l,()):=by
 unfold mY FJ iI Ay;simp only [bq,ez,if_pos (Qm (ci h) (show 56<=1000 by decide))];exact⟨trivial,trivial⟩
theorem aqp (l:List Int) (h:l.length<=1048576):oa l=some (l,()):=by
 unfold oa zD;simp only [ez,if_pos (Qm (ci h) (show 8<=1000 by decide))]
theorem akH (l:List ey) (h:l.length<=1048576):xE l=some (l,()):=by
 unfold xE Kq;simp only [ez,if_pos (Qm (ci h) (show 24<=1000 by decide))]
theorem Nj (s:eb) (h:nX 1048576 s):oJ s=some (s,())/\kK s=some (s,()):=by
 unfold oJ I8 kK DP;simp only [(Hm _ h.1).1,(Hm _ h.1).2,(CY _ h.2.1).1,(CY _ h.2.1).2,(CY _ h.2.2).1,(CY _ h.2.2).2,ae];exact⟨trivial,trivial⟩
theorem lG {α:Type} {l:List α} {k:Nat} {x:α} (h:l[k]? =some x):l.take (k+1)=l.take k++ [x] :=by rw [bD,h]; rfl
theorem FC {α:Type} (l:List α) (k:Nat) (x:α) (h:l.length<=1048576): (l.take k++ [x]).length<=1048577:=by
 rw [bk,cm,cj];omega
theorem Vd (m:ei) (h:JQ 1048576 m):ya m=some (m,())/\pj m=some (m,()):=by
 obtain⟨hl,hc⟩:=h
 have k1:=mU (B:=pq) m.configs (fun k (b:List dW)=>(((),(),(),(k:Int),()),((m.configs,m.activated,()),((),0,()),((),m.activated,()),()),(b,()))) (fun k b=>b=m.configs.take k) (fun _ _ _=>(((),(),()),(((),0,()),((),m.activated,()),()),(m.configs,())))
  (fun b hb=>by
    simp only [pq,BN,E6];rw [ec,if_neg (by omega),hb,bg])
  (fun k b c hx hb=>by
    have hk:=nG hx;have c1: (k:Int) < (m.configs.length:Int):=by omega
    have c2: (0:Int)<=(k:Int):=by omega
    subst hb;refine .inl ⟨m.configs.take (k+1),?_,rfl,rfl⟩;simp only [pq,BN,E6,ec,ez,if_pos c1,if_pos c2,aw,hx,ae,(Hm c (hc c (au hx))).1,eB (gJ hl) hk,if_pos (Qm (FC m.configs k c hl) (show 64<=1000 by decide)),lG hx])
  0 [] (aK _) rfl
 have k2:=mU (B:=mb) m.configs (fun k (b:List dW)=>(((),(),m.configs,(m.configs.length:Int),(k:Int),()),(((),0,()),((),m.activated,()),()),(b,()))) (fun k b=>b=m.configs.take k) (fun _ _ _=>(((),(),()),(((),0,()),((),m.activated,()),()),(m.configs,())))
  (fun b hb=>by
    simp only [mb,va,Az];rw [ec,if_neg (by omega),hb,bg])
  (fun k b c hx hb=>by
    have hk:=nG hx;have c1: (k:Int) < (m.configs.length:Int):=by omega
    have c2: (0:Int)<=(k:Int):=by omega
    subst hb;refine .inl ⟨m.configs.take (k+1),?_,rfl,rfl⟩;simp only [mb,va,Az,ec,ez,if_pos c1,if_pos c2,aw,hx,ae,(Hm c (hc c (au hx))).2,eB (gJ hl) hk,if_pos (Qm (FC m.configs k c hl) (show 64<=1000 by decide)),lG hx])
  0 [] (aK _) rfl
 unfold ya I9 pj DQ;rw [show GL (((),(),(),0,()),((m.configs,m.activated,()),((),0,()),((),m.activated,()),()),(([]:List dW),()))=_ from k1,show Cw (((),(),m.configs,(m.configs.length:Int),0,()),(((),0,()),((),m.activated,()),()),(([]:List dW),()))=_ from k2];exact⟨rfl,rfl⟩
theorem EH (x:dV) (ok:pg 1048576 x):qG x=some (x,())/\fP x=some (x,()):=by
 obtain⟨⟨hl,hs⟩,hsd,hml,hpl⟩:=ok
 have k1:=mU (B:=pt) x.servers (fun k (b:List eb)=>(((),(),(),(k:Int),()),((x.now,x.servers,x.sides,x.master.configs,x.master.activated,x.masterUp,x.lease.epoch,x.lease.holder,x.lease.ends,x.places,()),(0,(),(),(),0,0,0,0,0,(),()),(x.now,(),x.sides,x.master.configs,x.master.activated,x.masterUp,x.lease.epoch,x.lease.holder,x.lease.ends,x.places,()),()),(b,()))) (fun k b=>b=x.servers.take k) (fun _ _ _=>(((),(),(),()),((x.now,x.servers,x.sides,x.master.configs,x.master.activated,x.masterUp,x.lease.epoch,x.lease.holder,x.lease.ends,x.places,()),(0,(),(),(),0,0,0,0,0,(),()),(x.now,(),x.sides,x.master.configs,x.master.activated,x.masterUp,x.lease.epoch,x.lease.holder,x.lease.ends,x.places,()),()),(x.servers,())))
  (fun b hb=>by
    simp only [pt,BO,E7];rw [ec,if_neg (by omega),hb,bg])
  (fun k b c hx hb=>by
    have hk:=nG hx;have c1: (k:Int) < (x.servers.length:Int):=by omega
    have c2: (0:Int)<=(k:Int):=by omega
    subst hb;refine .inl ⟨x.servers.take (k+1),?_,rfl,rfl⟩;simp only [pt,BO,E7,ec,ez,if_pos c1,if_pos c2,aw,hx,ae,(Nj c (hs c (au hx))).1,eB (gJ hl) hk,if_pos (Qm (FC x.servers k c hl) (show 152<=1000 by decide)),lG hx])
  0 [] (aK _) rfl
 have k2:=mU (B:=lD) x.servers (fun k (b:List eb)=>(((),(),(),x.servers,(x.servers.length:Int),(k:Int),()),((x.now,x.servers,x.sides,x.master.configs,x.master.activated,x.masterUp,x.lease.epoch,x.lease.holder,x.lease.ends,x.places,()),(0,(),(),(),0,0,0,0,0,(),()),(x.now,(),x.sides,x.master.configs,x.master.activated,x.masterUp,x.lease.epoch,x.lease.holder,x.lease.ends,x.places,()),()),(b,()))) (fun k b=>b=x.servers.take k) (fun _ _ _=>(((),(),(),()),((x.now,x.servers,x.sides,x.master.configs,x.master.activated,x.masterUp,x.lease.epoch,x.lease.holder,x.lease.ends,x.places,()),(0,(),(),(),0,0,0,0,0,(),()),(x.now,(),x.sides,x.master.configs,x.master.activated,x.masterUp,x.lease.epoch,x.lease.holder,x.lease.ends,x.places,()),()),(x.servers,())))
  (fun b hb=>by
    simp only [lD,tN,yE];rw [ec,if_neg (by omega),hb,bg])
  (fun k b c hx hb=>by
    have hk:=nG hx;have c1: (k:Int) < (x.servers.length:Int):=by omega
    have c2: (0:Int)<=(k:Int):=by omega
    subst hb;refine .inl ⟨x.servers.take (k+1),?_,rfl,rfl⟩;simp only [lD,tN,yE,ec,ez,if_pos c1,if_pos c2,aw,hx,ae,(Nj c (hs c (au hx))).2,eB (gJ hl) hk,if_pos (Qm (FC x.servers k c hl) (show 152<=1000 by decide)),lG hx])
  0 [] (aK _) rfl
 unfold qG Ja fP Cy
 rw [show GM (((),(),(),0,()),((x.now,x.servers,x.sides,x.master.configs,x.master.activated,x.masterUp,x.lease.epoch,x.lease.holder,x.lease.ends,x.places,()),(0,(),(),(),0,0,0,0,0,(),()),(x.now,(),x.sides,x.master.configs,x.master.activated,x.masterUp,x.lease.epoch,x.lease.holder,x.lease.ends,x.places,()),()),(([]:List eb),()))=_ from k1,
  show AA (((),(),(),x.servers,(x.servers.length:Int),0,()),((x.now,x.servers,x.sides,x.master.configs,x.master.activated,x.masterUp,x.lease.epoch,x.lease.holder,x.lease.ends,x.places,()),(0,(),(),(),0,0,0,0,0,(),()),(x.now,(),x.sides,x.master.configs,x.master.activated,x.masterUp,x.lease.epoch,x.lease.holder,x.lease.ends,x.places,()),()),(([]:List eb),()))=_ from k2]
 have em: (⟨x.master.configs,x.master.activated⟩:ei)=x.master:=rfl;simp only [ae,bq,em,(Vd _ hml).1,(Vd _ hml).2,aqp _ hsd,akH _ hpl,ez,if_pos (Qm (ci hsd) (show 8<=1000 by decide)),if_pos (Qm (ci hpl) (show 24<=1000 by decide))];exact⟨trivial,trivial⟩
end Go.Proofs.YtkcgfceffffmoaaGreat.En
