/- Copies of clusters; the version of a server. -/
import Derived.Test.YtjnleglhcppgcaaGreatZPNew
import Derived.Test.YtjnleglhcppgcaaGreatZPMk
namespace Go.Proofs.YtjnleglhcppgcaaGreat.En
open Go
theorem yG {n c:Nat} (h:n<=1048577) (hc:c<=1000):n*c<=2 ^ 40:=by
 have h1:n*c<=1048577*1000:=Nat.mul_le_mul h hc;have h2: (2:Nat) ^ 40=1099511627776:=by decide
 omega
theorem sZ (c:dW) (h:gK 1048576 c):j9 c=some (c,())/\gm c=some (c,()):=by have a:=h.1;have b:=h.2;unfold j9 gm;simp only[bi,dZ,if_pos (yG (cg a) (show 8<=1000 by decide)),if_pos (yG (cg b) (show 8<=1000 by decide))];exact⟨trivial,trivial⟩
theorem pk (l:List ea) (h:l.length<=1048576):iM l=some (l,())/\fp l=some (l,()):=by unfold iM fp;simp only[bi,dZ,if_pos (yG (cg h) (show 56<=1000 by decide))];exact⟨trivial,trivial⟩
theorem Qq (l:List Int) (h:l.length<=1048576):ja l=some (l,()):=by unfold ja;simp only[dZ,if_pos (yG (cg h) (show 8<=1000 by decide))]
theorem K1 (l:List ew) (h:l.length<=1048576):o9 l=some (l,()):=by unfold o9;simp only[dZ,if_pos (yG (cg h) (show 24<=1000 by decide))]
theorem w5 (s:dX) (h:gW 1048576 s):jJ s=some (s,())/\gM s=some (s,()):=by unfold jJ gM;simp only[(sZ _ h.1).1,(sZ _ h.1).2,(pk _ h.2.1).1,(pk _ h.2.1).2,(pk _ h.2.2).1,(pk _ h.2.2).2,ae];exact⟨trivial,trivial⟩
theorem gr {α:Type} {l:List α} {k:Nat} {x:α} (h:l[k]? =some x):l.take (k+1)=l.take k++ [x] :=by rw[bn,h]; rfl
theorem rh {α:Type} (l:List α) (k:Nat) (x:α) (h:l.length<=1048576): (l.take k++ [x]).length<=1048577:=by rw[be,b6,ch];omega
theorem AW (m:dY) (h:uF 1048576 m):pJ m=some (m,())/\lF m=some (m,()):=by
 obtain⟨hl,hc⟩:=h
 have k1:=gJ (B:=ox) m.configs (fun k (b:List dW)=>(((),(),(),(k:Int),()),((m.configs,m.activated,()),((),0,()),((),m.activated,()),()),(b,()))) (fun k b=>b=m.configs.take k) (fun _ _ _=>(((),(),()),(((),0,()),((),m.activated,()),()),(m.configs,())))
  (fun b hb=>by simp only[ox];rw[dV,if_neg (by omega),hb,aX])
  (fun k b c hx hb=>by
    have hk:=fR hx;have c1: (k:Int)< (m.configs.length:Int):=by omega
    have c2: (0:Int)<=(k:Int):=by omega
    subst hb;refine .inl ⟨m.configs.take (k+1),?_,rfl,rfl⟩;simp only[ox,dV,dZ,if_pos c1,if_pos c2,ao,hx,ae,(sZ c (hc c (aq hx))).1,ec (eR hl) hk,if_pos (yG (rh m.configs k c hl) (show 64<=1000 by decide)),gr hx])
  0 [] (aF _) rfl
 have k2:=gJ (B:=kX) m.configs (fun k (b:List dW)=>(((),(),m.configs,(m.configs.length:Int),(k:Int),()),(((),0,()),((),m.activated,()),()),(b,()))) (fun k b=>b=m.configs.take k) (fun _ _ _=>(((),(),()),(((),0,()),((),m.activated,()),()),(m.configs,())))
  (fun b hb=>by simp only[kX];rw[dV,if_neg (by omega),hb,aX])
  (fun k b c hx hb=>by
    have hk:=fR hx;have c1: (k:Int)< (m.configs.length:Int):=by omega
    have c2: (0:Int)<=(k:Int):=by omega
    subst hb;refine .inl ⟨m.configs.take (k+1),?_,rfl,rfl⟩;simp only[kX,dV,dZ,if_pos c1,if_pos c2,ao,hx,ae,(sZ c (hc c (aq hx))).2,ec (eR hl) hk,if_pos (yG (rh m.configs k c hl) (show 64<=1000 by decide)),gr hx])
  0 [] (aF _) rfl
 unfold pJ lF;rw[show Bk (((),(),(),0,()),((m.configs,m.activated,()),((),0,()),((),m.activated,()),()),(([]:List dW),()))=_ from k1,show vZ (((),(),m.configs,(m.configs.length:Int),0,()),(((),0,()),((),m.activated,()),()),(([]:List dW),()))=_ from k2];exact⟨rfl,rfl⟩
theorem qI (x:dT) (ok:iq 1048576 x):lY x=some (x,())/\eH x=some (x,()):=by
 obtain⟨⟨hl,hs⟩,hsd,hml,hpl⟩:=ok
 have k1:=gJ (B:=oz) x.servers (fun k (b:List dX)=>(((),(),(),(k:Int),()),((x.now,x.servers,x.sides,x.master.configs,x.master.activated,x.masterUp,x.lease.epoch,x.lease.holder,x.lease.ends,x.places,()),(0,(),(),(),0,0,0,0,0,(),()),(x.now,(),x.sides,x.master.configs,x.master.activated,x.masterUp,x.lease.epoch,x.lease.holder,x.lease.ends,x.places,()),()),(b,()))) (fun k b=>b=x.servers.take k) (fun _ _ _=>(((),(),(),()),((x.now,x.servers,x.sides,x.master.configs,x.master.activated,x.masterUp,x.lease.epoch,x.lease.holder,x.lease.ends,x.places,()),(0,(),(),(),0,0,0,0,0,(),()),(x.now,(),x.sides,x.master.configs,x.master.activated,x.masterUp,x.lease.epoch,x.lease.holder,x.lease.ends,x.places,()),()),(x.servers,())))
  (fun b hb=>by simp only[oz];rw[dV,if_neg (by omega),hb,aX])
  (fun k b c hx hb=>by
    have hk:=fR hx;have c1: (k:Int)< (x.servers.length:Int):=by omega
    have c2: (0:Int)<=(k:Int):=by omega
    subst hb;refine .inl ⟨x.servers.take (k+1),?_,rfl,rfl⟩;simp only[oz,dV,dZ,if_pos c1,if_pos c2,ao,hx,ae,(w5 c (hs c (aq hx))).1,ec (eR hl) hk,if_pos (yG (rh x.servers k c hl) (show 152<=1000 by decide)),gr hx])
  0 [] (aF _) rfl
 have k2:=gJ (B:=jQ) x.servers (fun k (b:List dX)=>(((),(),(),x.servers,(x.servers.length:Int),(k:Int),()),((x.now,x.servers,x.sides,x.master.configs,x.master.activated,x.masterUp,x.lease.epoch,x.lease.holder,x.lease.ends,x.places,()),(0,(),(),(),0,0,0,0,0,(),()),(x.now,(),x.sides,x.master.configs,x.master.activated,x.masterUp,x.lease.epoch,x.lease.holder,x.lease.ends,x.places,()),()),(b,()))) (fun k b=>b=x.servers.take k) (fun _ _ _=>(((),(),(),()),((x.now,x.servers,x.sides,x.master.configs,x.master.activated,x.masterUp,x.lease.epoch,x.lease.holder,x.lease.ends,x.places,()),(0,(),(),(),0,0,0,0,0,(),()),(x.now,(),x.sides,x.master.configs,x.master.activated,x.masterUp,x.lease.epoch,x.lease.holder,x.lease.ends,x.places,()),()),(x.servers,())))
  (fun b hb=>by simp only[jQ];rw[dV,if_neg (by omega),hb,aX])
  (fun k b c hx hb=>by
    have hk:=fR hx;have c1: (k:Int)< (x.servers.length:Int):=by omega
    have c2: (0:Int)<=(k:Int):=by omega
    subst hb;refine .inl ⟨x.servers.take (k+1),?_,rfl,rfl⟩;simp only[jQ,dV,dZ,if_pos c1,if_pos c2,ao,hx,ae,(w5 c (hs c (aq hx))).2,ec (eR hl) hk,if_pos (yG (rh x.servers k c hl) (show 152<=1000 by decide)),gr hx])
  0 [] (aF _) rfl
 unfold lY eH
 rw[show Bm (((),(),(),0,()),((x.now,x.servers,x.sides,x.master.configs,x.master.activated,x.masterUp,x.lease.epoch,x.lease.holder,x.lease.ends,x.places,()),(0,(),(),(),0,0,0,0,0,(),()),(x.now,(),x.sides,x.master.configs,x.master.activated,x.masterUp,x.lease.epoch,x.lease.holder,x.lease.ends,x.places,()),()),(([]:List dX),()))=_ from k1,
  show u5 (((),(),(),x.servers,(x.servers.length:Int),0,()),((x.now,x.servers,x.sides,x.master.configs,x.master.activated,x.masterUp,x.lease.epoch,x.lease.holder,x.lease.ends,x.places,()),(0,(),(),(),0,0,0,0,0,(),()),(x.now,(),x.sides,x.master.configs,x.master.activated,x.masterUp,x.lease.epoch,x.lease.holder,x.lease.ends,x.places,()),()),(([]:List dX),()))=_ from k2]
 have em: (⟨x.master.configs,x.master.activated⟩:dY)=x.master:=rfl;simp only[ae,bi,em,(AW _ hml).1,(AW _ hml).2,Qq _ hsd,K1 _ hpl,dZ,if_pos (yG (cg hsd) (show 8<=1000 by decide)),if_pos (yG (cg hpl) (show 24<=1000 by decide))];exact⟨trivial,trivial⟩
theorem S9 (y:dT) (ok:iq 1048576 y) (hb:vl y<=100000000):gX (⟨y.now,(LR y 1).servers,(LR y 1).sides,(⟨(LR y 1).master.configs,y.master.activated⟩:dY),y.masterUp,y.lease,(LR y 1).places⟩:dT) 1=some (1+JL y,()):=(ww y 1 (by decide) (by omega) ok).2
theorem JE (y:dT): (LR y 1).servers.length=y.servers.length/\(LR y 1).sides.length=y.sides.length/\(LR y 1).master.configs.length=y.master.configs.length/\(LR y 1).places.length=y.places.length:=
 ⟨iG _ _ _ _,iG _ _ _ _,iG _ _ _ _,iG _ _ _ _⟩
end Go.Proofs.YtjnleglhcppgcaaGreat.En
