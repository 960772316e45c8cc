/- What a valid cluster is known to have. -/
import Derived.Test.YtjnleglhcppgcaaGreatZPV5
namespace Go.Proofs.YtjnleglhcppgcaaGreat.En
open Go
theorem sk {c:ej} (h:iH maxLen c) (hv:eL c=some (true,())):yB c.replicas/\yB c.witnesses/\c.primary∈c.replicas/\1<=c.epoch/\c.epoch<=20/\ ∀x∈c.replicas,x∉c.witnesses:=by
 unfold eL at hv;simp only[kg,ae] at hv;cases hw:je c.epoch 1 20 with
 |false=>rw[hw] at hv; cases hv
 |true=>
  rw[hw] at hv;rcases wN c.replicas h.1 with ⟨a1,a2,a3⟩| ⟨a1,a2⟩
  ·rcases wN c.witnesses h.2 with ⟨b1,b2,b3⟩| ⟨b1,b2⟩
   ·simp only[a1,b1,ae,en,(fH c.replicas c.primary h.1).1,D9 _ _ a3 h.2,ei] at hv;by_cases hp:c.primary∈c.replicas
    ·rw[if_pos hp] at hv;refine⟨a3,b3,hp,(fK.1 hw).1,(fK.1 hw).2,fun x hx hxw=> ?_⟩
     have hz: ((((c.replicas.filter fun x=>decide (x∈c.witnesses)).length:Nat):Int)==0)=true:=by simpa using hv
     have hz: (c.replicas.filter fun x=>decide (x∈c.witnesses)).length=0:=by simp only[beq_iff_eq] at hz;omega
     have:=bz hz;have hm:x∈c.replicas.filter fun x=>decide (x∈c.witnesses):=by simp[cA,hx,hxw]
     rw[this] at hm;cases hm
    ·rw[if_neg hp] at hv; cases hv
   ·simp only[a1,b1,ae,en,eB] at hv; cases hv
  ·simp only[a1,ae,en,eB] at hv; cases hv
theorem BL {m:ev} (h:wL maxLen m) (hv:fL m=some (true,())): (∀k (hk:k<m.configs.length),eL m.configs[k] =some (true,())/\m.configs[k].epoch=(k:Int)+1)/\0<=m.activated/\m.activated<=(m.configs.length:Int):=by
 obtain⟨hl,hc⟩:=h
 have gE:=jS (B1:=gf) (B2:=gf) m.configs.length (fun k=>(((),(k:Int),()),((m.configs,m.activated,()),()),())) (fun k=>(((),(k:Int),()),((m.configs,m.activated,()),()),())) (.inr (((),(),()),((m.configs,m.activated,()),()),())) (.inr (((),(),()),((m.configs,m.activated,()),()),())) (fun _=> .inl (((),false,()),((m.configs,m.activated,()),()),())) (fun _=> .inl (((),false,()),((m.configs,m.activated,()),()),()))
  (fun k=> ∀hk:k<m.configs.length,eL m.configs[k] =some (true,())/\m.configs[k].epoch=(k:Int)+1) (fun _=>True)
  (by simp only[gf]; rw[ei,if_neg (by omega)])
  (by simp only[gf]; rw[ei,if_neg (by omega)])
  (fun k hk=>by
    have c1: (k:Int)< (m.configs.length:Int):=by omega
    have c2: (0:Int)<=(k:Int):=by omega
    obtain⟨b,v1,v2⟩:=my m.configs[k] (hc _ (aV hk))
    have iJ:gf (((),(k:Int),()),((m.configs,m.activated,()),()),())=br b (br (m.configs[k].epoch==((k+1:Nat):Int)) (some (.inl (((),((k+1:Nat):Int),()),((m.configs,m.activated,()),()),()))) (some (.inr (.inl (((),false,()),((m.configs,m.activated,()),()),()))))) (some (.inr (.inl (((),false,()),((m.configs,m.activated,()),()),())))):=by simp only[gf,ei,ek,if_pos c1,if_pos c2,ap,ah hk,ae,v1,ey hl hk,fi]
    rw[iJ];cases b with
    |false=>exact .inr ⟨rfl,rfl,trivial⟩
    |true=>
     rw[en,gP];by_cases he:m.configs[k].epoch=((k+1:Nat):Int)
     ·rw[if_pos he];exact .inl ⟨rfl,rfl,fun _=>⟨v1,by omega⟩⟩
     ·rw[if_neg he];exact .inr ⟨rfl,rfl,trivial⟩)
 unfold fL at hv;rcases gE with ⟨k1,_,k3⟩| ⟨k,_,k1,_,_⟩
 ·rw[show mH (((),0,()),((m.configs,m.activated,()),()),())=_ from k1] at hv;simp only[ae,cn,kg,af,an,and_true] at hv;exact⟨fun k hk=>k3 k hk hk,(fK.1 hv).1,(fK.1 hv).2⟩
 ·rw[show mH (((),0,()),((m.configs,m.activated,()),()),())=_ from k1] at hv;cases hv
theorem yE {s:eo} {id:Int} (h:iZ 1048576 s) (hv:eM s id=some (true,())):0<=s.first/\s.first<=16/\s.log.length<=16/\0<=s.commit/\s.commit<=s.first+(s.log.length:Int)/\iM s.log=some (true,())/\iM s.learned=some (true,())/\0<=s.epoch/\s.epoch<=20:=by
 unfold eM at hv;simp only[kg,ae,fi] at hv;cases h1:je s.version 1 2 with
 |false=>rw[h1] at hv; cases hv
 |true=>
 cases h2:je s.epoch 0 20 with
 |false=>rw[h1,h2] at hv; cases hv
 |true=>
 rw[h1,h2] at hv;rcases uF s.log (ff h.2.1) with ⟨a1,a2,a3⟩| ⟨a1,a2⟩
 case inr=>simp only[a1,ae,en,eB] at hv; cases hv
 rcases uF s.learned (ff h.2.2) with ⟨b1,b2,b3⟩| ⟨b1,b2⟩
 case inr=>simp only[a1,b1,ae,en,eB] at hv; cases hv
 simp only[a1,b1,ae,en] at hv;cases hw:je s.first 0 16 with
 |false=>rw[hw] at hv; cases hv
 |true=>
 have hf:=fK.1 hw;rw[hw,fP (n:=s.first+(s.log.length:Int)) (by omega) (by omega)] at hv;simp only[en] at hv;cases h3:je (s.first+(s.log.length:Int)) 0 16 with
 |false=>rw[h3] at hv; cases hv
 |true=>
 cases h4:je s.commit 0 (s.first+(s.log.length:Int)) with
 |false=>rw[h3,h4] at hv; cases hv
 |true=>
 exact⟨hf.1,hf.2,a3,(fK.1 h4).1,(fK.1 h4).2,a1,b1,(fK.1 h2).1,(fK.1 h2).2⟩
structure VC (x:eg):Prop where
 len:x.servers.length=5
 ml:fL x.master=some (true,())
 sides:lz x.sides=some (true,())
 places:ii x.places=some (true,())
 lease:mW x.lease=some (true,())
 now:0<=x.now/\x.now<=999
 up:0<=x.masterUp/\x.masterUp<=3
 srv: ∀k (hk:k<x.servers.length),eM x.servers[k] (k:Int)=some (true,())
theorem jc {x:eg} (h:gX 1048576 x) (hv:eA x=some (true,())):VC x:=by
 obtain⟨⟨hs1,hs2⟩,hsd,hml,hpl⟩:=h;have hm:=ff hs1
 have gE:=jS (B1:=eG) (B2:=eG) x.servers.length (fun k=>(((),(k:Int),()),((x.now,x.servers,x.sides,x.master.configs,x.master.activated,x.masterUp,x.lease.epoch,x.lease.holder,x.lease.ends,x.places,()),()),())) (fun k=>(((),(k:Int),()),((x.now,x.servers,x.sides,x.master.configs,x.master.activated,x.masterUp,x.lease.epoch,x.lease.holder,x.lease.ends,x.places,()),()),())) (.inr (((),()),(),())) (.inr (((),()),(),())) (fun _=> .inl ((false,()),(),())) (fun _=> .inl ((false,()),(),()))
  (fun k=> ∀hk:k<x.servers.length,eM x.servers[k] (k:Int)=some (true,())) (fun _=>True)
  (by simp only[eG]; rw[ei,if_neg (by omega)])
  (by simp only[eG]; rw[ei,if_neg (by omega)])
  (fun k hk=>by
    have c1: (k:Int)< (x.servers.length:Int):=by omega
    have c2: (0:Int)<=(k:Int):=by omega
    have hsk:=hs2 _ (aV hk);obtain⟨b,v1,v2⟩:=sj x.servers[k] (k:Int) hsk;obtain⟨n,n1,n2⟩:=tB x.servers[k].learned (ff hsk.2.2);obtain⟨c,d,d1,d2,d3⟩:=yD x.master x.servers[k].config.epoch hml;have hcfg:=fY hsk.1
    have iJ:eG (((),(k:Int),()),((x.now,x.servers,x.sides,x.master.configs,x.master.activated,x.masterUp,x.lease.epoch,x.lease.holder,x.lease.ends,x.places,()),()),())=some (.inr (.inl ((false,()),(),())))\/(b=true/\eG (((),(k:Int),()),((x.now,x.servers,x.sides,x.master.configs,x.master.activated,x.masterUp,x.lease.epoch,x.lease.holder,x.lease.ends,x.places,()),()),())=some (.inl (((),((k+1:Nat):Int),()),((x.now,x.servers,x.sides,x.master.configs,x.master.activated,x.masterUp,x.lease.epoch,x.lease.holder,x.lease.ends,x.places,()),()),()))):=by
     simp only[eG,ei,ek,if_pos c1,if_pos c2,ap,ah hk,ae,v1,n1,ey hm hk,fi,
      show (⟨x.master.configs,x.master.activated⟩:ev)=x.master from rfl,d1,wO _ hcfg,(lu c x.servers[k].config d3).1]
     cases b with
     |false=>exact .inl rfl
     |true=>
      simp only[en]
      repeat' split
      all_goals first |exact .inl trivial|exact .inr ⟨trivial,trivial⟩| (cases d<;>first |exact .inl rfl| (simp only[en]; repeat' split)<;>first |exact .inl trivial|exact .inr ⟨trivial,trivial⟩)
    rcases iJ with h1| ⟨rfl,h1⟩
    ·rw[h1]; exact .inr ⟨rfl,rfl,trivial⟩
    ·rw[h1]; exact .inl ⟨rfl,rfl,fun _=>v1⟩)
 unfold eA at hv;obtain⟨b1,a1,a2⟩:=yC x.sides (ff hsd);obtain⟨b2,m1,m2⟩:=masterLog x.master (k9 hml);obtain⟨b3,l1,l2⟩:=zo x.lease;obtain⟨b4,p1,p2⟩:=rp x.places (ff hpl);simp only[kg,a1,m1,l1,p1,ae,fi,ei] at hv;cases h1:je x.now 0 999 with
 |false=>rw[h1] at hv; cases hv
 |true=>
 cases h2: ((x.servers.length:Int)==5) with
 |false=>rw[h1,h2] at hv; cases hv
 |true=>
 cases b1 with
 |false=>rw[h1,h2] at hv; cases hv
 |true=>
 cases b2 with
 |false=>rw[h1,h2] at hv; cases hv
 |true=>
 cases h3:je x.masterUp 0 3 with
 |false=>rw[h1,h2,h3] at hv; cases hv
 |true=>
 cases b3 with
 |false=>rw[h1,h2,h3] at hv; cases hv
 |true=>
 cases b4 with
 |false=>rw[h1,h2,h3] at hv; cases hv
 |true=>
 rw[h1,h2,h3] at hv;simp only[en] at hv;by_cases h4:x.lease.epoch>x.master.activated
 ·rw[if_pos h4] at hv; cases hv
 ·rw[if_neg h4] at hv;rcases gE with ⟨k1,_,k3⟩| ⟨k,_,k1,_,_⟩
  ·refine⟨?_,m1,a1,p1,l1,fK.1 h1,fK.1 h3,fun k hk=>k3 k hk hk⟩;simp only[beq_iff_eq] at h2;omega
  ·rw[show jf (((),0,()),((x.now,x.servers,x.sides,x.master.configs,x.master.activated,x.masterUp,x.lease.epoch,x.lease.holder,x.lease.ends,x.places,()),()),())=_ from k1] at hv;cases hv
end Go.Proofs.YtjnleglhcppgcaaGreat.En
