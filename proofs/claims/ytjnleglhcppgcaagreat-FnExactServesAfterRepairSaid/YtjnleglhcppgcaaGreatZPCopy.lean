/- Copies of clusters; the version of a server. -/
import Derived.Test.YtjnleglhcppgcaaGreatZPNew
import Derived.Test.YtjnleglhcppgcaaGreatZPMk
namespace Go.Proofs.YtjnleglhcppgcaaGreat.En
open Go
theorem A0 {n c:Nat} (h:n<=1048577) (hc:c<=1000):n*c<=2 ^ 40:=by
 have h1:n*c<=1048577*1000:=Nat.mul_le_mul h hc;have h2: (2:Nat) ^ 40=1099511627776:=by decide
 omega
theorem u6 (c:ej) (h:iH 1048576 c):lS c=some (c,())/\hO c=some (c,()):=by have a:=h.1;have b:=h.2;unfold lS hO;simp only[bo,ek,if_pos (A0 (cw a) (show 8<=1000 by decide)),if_pos (A0 (cw b) (show 8<=1000 by decide))];exact⟨trivial,trivial⟩
theorem ot (l:List eu) (h:l.length<=1048576):ju l=some (l,())/\gi l=some (l,()):=by unfold ju gi;simp only[bo,ek,if_pos (A0 (cw h) (show 56<=1000 by decide))];exact⟨trivial,trivial⟩
theorem Tj (l:List Int) (h:l.length<=1048576):iP l=some (l,()):=by unfold iP;simp only[ek,if_pos (A0 (cw h) (show 8<=1000 by decide))]
theorem M9 (l:List eN) (h:l.length<=1048576):qk l=some (l,()):=by unfold qk;simp only[ek,if_pos (A0 (cw h) (show 24<=1000 by decide))]
theorem wP (s:eo) (h:iZ 1048576 s):kJ s=some (s,())/\hQ s=some (s,()):=by unfold kJ hQ;simp only[(u6 _ h.1).1,(u6 _ h.1).2,(ot _ h.2.1).1,(ot _ h.2.1).2,(ot _ h.2.2).1,(ot _ h.2.2).2,ae];exact⟨trivial,trivial⟩
theorem gV {α:Type} {l:List α} {k:Nat} {x:α} (h:l[k]? =some x):l.take (k+1)=l.take k++ [x] :=by rw[bK,h]; rfl
theorem tj {α:Type} (l:List α) (k:Nat) (x:α) (h:l.length<=1048576): (l.take k++ [x]).length<=1048577:=by rw[aQ,bq,bX];omega
theorem CO (m:ev) (h:wL 1048576 m):qS m=some (m,())/\mF m=some (m,()):=by
 obtain⟨hl,hc⟩:=h
 have k1:=iB (B:=pC) m.configs (fun k (b:List ej)=>(((),(),(),(k:Int),()),((m.configs,m.activated,()),((),0,()),((),m.activated,()),()),(b,()))) (fun k b=>b=m.configs.take k) (fun _ _ _=>(((),(),()),(((),0,()),((),m.activated,()),()),(m.configs,())))
  (fun b hb=>by simp only[pC];rw[ei,if_neg (by omega),hb,be])
  (fun k b c hx hb=>by
    have hk:=i5 hx;have c1: (k:Int)< (m.configs.length:Int):=by omega
    have c2: (0:Int)<=(k:Int):=by omega
    subst hb;refine .inl ⟨m.configs.take (k+1),?_,rfl,rfl⟩;simp only[pC,ei,ek,if_pos c1,if_pos c2,ap,hx,ae,(u6 c (hc c (ao hx))).1,ey (ff hl) hk,if_pos (A0 (tj m.configs k c hl) (show 64<=1000 by decide)),gV hx])
  0 [] (aI _) rfl
 have k2:=iB (B:=ma) m.configs (fun k (b:List ej)=>(((),(),m.configs,(m.configs.length:Int),(k:Int),()),(((),0,()),((),m.activated,()),()),(b,()))) (fun k b=>b=m.configs.take k) (fun _ _ _=>(((),(),()),(((),0,()),((),m.activated,()),()),(m.configs,())))
  (fun b hb=>by simp only[ma];rw[ei,if_neg (by omega),hb,be])
  (fun k b c hx hb=>by
    have hk:=i5 hx;have c1: (k:Int)< (m.configs.length:Int):=by omega
    have c2: (0:Int)<=(k:Int):=by omega
    subst hb;refine .inl ⟨m.configs.take (k+1),?_,rfl,rfl⟩;simp only[ma,ei,ek,if_pos c1,if_pos c2,ap,hx,ae,(u6 c (hc c (ao hx))).2,ey (ff hl) hk,if_pos (A0 (tj m.configs k c hl) (show 64<=1000 by decide)),gV hx])
  0 [] (aI _) rfl
 unfold qS mF;rw[show Db (((),(),(),0,()),((m.configs,m.activated,()),((),0,()),((),m.activated,()),()),(([]:List ej),()))=_ from k1,show yl (((),(),m.configs,(m.configs.length:Int),0,()),(((),0,()),((),m.activated,()),()),(([]:List ej),()))=_ from k2];exact⟨rfl,rfl⟩
theorem pu (x:eg) (ok:gX 1048576 x):jZ x=some (x,())/\eO x=some (x,()):=by
 obtain⟨⟨hl,hs⟩,hsd,hml,hpl⟩:=ok
 have k1:=iB (B:=pD) x.servers (fun k (b:List eo)=>(((),(),(),(k:Int),()),((x.now,x.servers,x.sides,x.master.configs,x.master.activated,x.masterUp,x.lease.epoch,x.lease.holder,x.lease.ends,x.places,()),(0,(),(),(),0,0,0,0,0,(),()),(x.now,(),x.sides,x.master.configs,x.master.activated,x.masterUp,x.lease.epoch,x.lease.holder,x.lease.ends,x.places,()),()),(b,()))) (fun k b=>b=x.servers.take k) (fun _ _ _=>(((),(),(),()),((x.now,x.servers,x.sides,x.master.configs,x.master.activated,x.masterUp,x.lease.epoch,x.lease.holder,x.lease.ends,x.places,()),(0,(),(),(),0,0,0,0,0,(),()),(x.now,(),x.sides,x.master.configs,x.master.activated,x.masterUp,x.lease.epoch,x.lease.holder,x.lease.ends,x.places,()),()),(x.servers,())))
  (fun b hb=>by simp only[pD];rw[ei,if_neg (by omega),hb,be])
  (fun k b c hx hb=>by
    have hk:=i5 hx;have c1: (k:Int)< (x.servers.length:Int):=by omega
    have c2: (0:Int)<=(k:Int):=by omega
    subst hb;refine .inl ⟨x.servers.take (k+1),?_,rfl,rfl⟩;simp only[pD,ei,ek,if_pos c1,if_pos c2,ap,hx,ae,(wP c (hs c (ao hx))).1,ey (ff hl) hk,if_pos (A0 (tj x.servers k c hl) (show 152<=1000 by decide)),gV hx])
  0 [] (aI _) rfl
 have k2:=iB (B:=kR) x.servers (fun k (b:List eo)=>(((),(),(),x.servers,(x.servers.length:Int),(k:Int),()),((x.now,x.servers,x.sides,x.master.configs,x.master.activated,x.masterUp,x.lease.epoch,x.lease.holder,x.lease.ends,x.places,()),(0,(),(),(),0,0,0,0,0,(),()),(x.now,(),x.sides,x.master.configs,x.master.activated,x.masterUp,x.lease.epoch,x.lease.holder,x.lease.ends,x.places,()),()),(b,()))) (fun k b=>b=x.servers.take k) (fun _ _ _=>(((),(),(),()),((x.now,x.servers,x.sides,x.master.configs,x.master.activated,x.masterUp,x.lease.epoch,x.lease.holder,x.lease.ends,x.places,()),(0,(),(),(),0,0,0,0,0,(),()),(x.now,(),x.sides,x.master.configs,x.master.activated,x.masterUp,x.lease.epoch,x.lease.holder,x.lease.ends,x.places,()),()),(x.servers,())))
  (fun b hb=>by simp only[kR];rw[ei,if_neg (by omega),hb,be])
  (fun k b c hx hb=>by
    have hk:=i5 hx;have c1: (k:Int)< (x.servers.length:Int):=by omega
    have c2: (0:Int)<=(k:Int):=by omega
    subst hb;refine .inl ⟨x.servers.take (k+1),?_,rfl,rfl⟩;simp only[kR,ei,ek,if_pos c1,if_pos c2,ap,hx,ae,(wP c (hs c (ao hx))).2,ey (ff hl) hk,if_pos (A0 (tj x.servers k c hl) (show 152<=1000 by decide)),gV hx])
  0 [] (aI _) rfl
 unfold jZ eO
 rw[show Dd (((),(),(),0,()),((x.now,x.servers,x.sides,x.master.configs,x.master.activated,x.masterUp,x.lease.epoch,x.lease.holder,x.lease.ends,x.places,()),(0,(),(),(),0,0,0,0,0,(),()),(x.now,(),x.sides,x.master.configs,x.master.activated,x.masterUp,x.lease.epoch,x.lease.holder,x.lease.ends,x.places,()),()),(([]:List eo),()))=_ from k1,
  show xh (((),(),(),x.servers,(x.servers.length:Int),0,()),((x.now,x.servers,x.sides,x.master.configs,x.master.activated,x.masterUp,x.lease.epoch,x.lease.holder,x.lease.ends,x.places,()),(0,(),(),(),0,0,0,0,0,(),()),(x.now,(),x.sides,x.master.configs,x.master.activated,x.masterUp,x.lease.epoch,x.lease.holder,x.lease.ends,x.places,()),()),(([]:List eo),()))=_ from k2]
 have em: (⟨x.master.configs,x.master.activated⟩:ev)=x.master:=rfl;simp only[ae,bo,em,(CO _ hml).1,(CO _ hml).2,Tj _ hsd,M9 _ hpl,ek,if_pos (A0 (cw hsd) (show 8<=1000 by decide)),if_pos (A0 (cw hpl) (show 24<=1000 by decide))];exact⟨trivial,trivial⟩
end Go.Proofs.YtjnleglhcppgcaaGreat.En
