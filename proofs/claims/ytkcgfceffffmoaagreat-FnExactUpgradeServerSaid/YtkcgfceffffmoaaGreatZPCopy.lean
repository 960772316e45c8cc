/- Copies of clusters; the version of a server. -/
import Derived.Test.YtkcgfceffffmoaaGreatZPNew
import Derived.Test.YtkcgfceffffmoaaGreatZPMk
namespace Go.Proofs.YtkcgfceffffmoaaGreat.En
open Go
theorem GQ {n c:Nat} (h:n≤1048577) (hc:c≤1000):n*c≤2 ^ 40:=by
 have h1:n*c≤1048577*1000:=Nat.mul_le_mul h hc
 have h2: (2:Nat) ^ 40=1099511627776:=by decide
 omega
theorem Ev (c:ai) (h:j5 1048576 c):lD c=some (c,())∧eI c=some (c,()):=by
 have a:=h.1
 have b:=h.2
 unfold lD qL eI kQ
 simp only [List.nil_append,bB,if_pos (GQ (Nat.le_succ_of_le a) (show 8≤1000 by decide)),if_pos (GQ (Nat.le_succ_of_le b) (show 8≤1000 by decide))]
 exact⟨trivial,trivial⟩
theorem Ew (l:List aK) (h:l.length≤1048576):pL l=some (l,())∧jO l=some (l,()):=by
 unfold pL s4 jO uy
 simp only [List.nil_append,bB,if_pos (GQ (Nat.le_succ_of_le h) (show 56≤1000 by decide))]
 exact⟨trivial,trivial⟩
theorem TW (l:List Int) (h:l.length≤1048576):km l=some (l,()):=by
 unfold km sE
 simp only [bB,if_pos (GQ (Nat.le_succ_of_le h) (show 8≤1000 by decide))]
theorem OD (l:List aU) (h:l.length≤1048576):lM l=some (l,()):=by
 unfold lM uA
 simp only [bB,if_pos (GQ (Nat.le_succ_of_le h) (show 24≤1000 by decide))]
theorem Pr (s:ak) (h:o2 1048576 s):pd s=some (s,())∧kk s=some (s,()):=by
 unfold pd qU kk mY
 simp only [(Ev _ h.1).1,(Ev _ h.1).2,(Ew _ h.2.1).1,(Ew _ h.2.1).2,(Ew _ h.2.2).1,(Ew _ h.2.2).2,Option.bind_some]
 exact⟨trivial,trivial⟩
theorem pF {α:Type} {l:List α} {k:Nat} {x:α} (h:l[k]? =some x):l.take (k+1)=l.take k++ [x] :=by rw [List.take_add_one,h]; rfl
theorem qG {α:Type} (l:List α) (k:Nat) (x:α) (h:l.length≤1048576): (l.take k++ [x]).length≤1048577:=by
 rw [List.length_append,List.length_take,List.length_singleton]
 omega
theorem Sy (m:an) (h:GI 1048576 m):pe m=some (m,())∧kn m=some (m,()):=by
 obtain⟨hl,hc⟩:=h
 have k1:=mL (B:=gx) m.configs (fun k (b:List ai)=>(((),(),(),(k:Int),()),((m.configs,m.activated,()),((),0,()),((),m.activated,()),()),(b,()))) (fun k b=>b=m.configs.take k) (fun _ _ _=>(((),(),()),(((),0,()),((),m.activated,()),()),(m.configs,())))
  (fun b hb=>by
    simp only [gx,mh]
    rw [aB,if_neg (by omega),hb,List.take_length])
  (fun k b c hx hb=>by
    have hk:=jD hx
    have c1: (k:Int) < (m.configs.length:Int):=by omega
    have c2: (0:Int)≤(k:Int):=by omega
    subst hb
    refine .inl ⟨m.configs.take (k+1),?_,rfl,rfl⟩
    simp only [gx,mh,aB,bB,if_pos c1,if_pos c2,Int.toNat_natCast,hx,Option.bind_some,(Ev c (hc c (List.mem_of_getElem? hx))).1,bM (fg hl) hk,if_pos (GQ (qG m.configs k c hl) (show 64≤1000 by decide)),pF hx])
  0 [] (Nat.zero_le _) rfl
 have k2:=mL (B:=dX) m.configs (fun k (b:List ai)=>(((),(),m.configs,(m.configs.length:Int),(k:Int),()),(((),0,()),((),m.activated,()),()),(b,()))) (fun k b=>b=m.configs.take k) (fun _ _ _=>(((),(),()),(((),0,()),((),m.activated,()),()),(m.configs,())))
  (fun b hb=>by
    simp only [dX,iB]
    rw [aB,if_neg (by omega),hb,List.take_length])
  (fun k b c hx hb=>by
    have hk:=jD hx
    have c1: (k:Int) < (m.configs.length:Int):=by omega
    have c2: (0:Int)≤(k:Int):=by omega
    subst hb
    refine .inl ⟨m.configs.take (k+1),?_,rfl,rfl⟩
    simp only [dX,iB,aB,bB,if_pos c1,if_pos c2,Int.toNat_natCast,hx,Option.bind_some,(Ev c (hc c (List.mem_of_getElem? hx))).2,bM (fg hl) hk,if_pos (GQ (qG m.configs k c hl) (show 64≤1000 by decide)),pF hx])
  0 [] (Nat.zero_le _) rfl
 unfold pe qV kn mZ
 rw [show rR (((),(),(),0,()),((m.configs,m.activated,()),((),0,()),((),m.activated,()),()),(([]:List ai),()))=_ from k1,show oC (((),(),m.configs,(m.configs.length:Int),0,()),(((),0,()),((),m.activated,()),()),(([]:List ai),()))=_ from k2]
 exact⟨rfl,rfl⟩
theorem Sz (x:ao) (ok:sL 1048576 x):pf x=some (x,())∧jh x=some (x,()):=by
 obtain⟨⟨hl,hs⟩,hsd,hml,hpl⟩:=ok
 have k1:=mL (B:=gy) x.servers (fun k (b:List ak)=>(((),(),(),(k:Int),()),((x.now,x.servers,x.sides,x.master.configs,x.master.activated,x.masterUp,x.lease.epoch,x.lease.holder,x.lease.ends,x.places,()),(0,(),(),(),0,0,0,0,0,(),()),(x.now,(),x.sides,x.master.configs,x.master.activated,x.masterUp,x.lease.epoch,x.lease.holder,x.lease.ends,x.places,()),()),(b,()))) (fun k b=>b=x.servers.take k) (fun _ _ _=>(((),(),(),()),((x.now,x.servers,x.sides,x.master.configs,x.master.activated,x.masterUp,x.lease.epoch,x.lease.holder,x.lease.ends,x.places,()),(0,(),(),(),0,0,0,0,0,(),()),(x.now,(),x.sides,x.master.configs,x.master.activated,x.masterUp,x.lease.epoch,x.lease.holder,x.lease.ends,x.places,()),()),(x.servers,())))
  (fun b hb=>by
    simp only [gy,mi]
    rw [aB,if_neg (by omega),hb,List.take_length])
  (fun k b c hx hb=>by
    have hk:=jD hx
    have c1: (k:Int) < (x.servers.length:Int):=by omega
    have c2: (0:Int)≤(k:Int):=by omega
    subst hb
    refine .inl ⟨x.servers.take (k+1),?_,rfl,rfl⟩
    simp only [gy,mi,aB,bB,if_pos c1,if_pos c2,Int.toNat_natCast,hx,Option.bind_some,(Pr c (hs c (List.mem_of_getElem? hx))).1,bM (fg hl) hk,if_pos (GQ (qG x.servers k c hl) (show 152≤1000 by decide)),pF hx])
  0 [] (Nat.zero_le _) rfl
 have k2:=mL (B:=dC) x.servers (fun k (b:List ak)=>(((),(),(),x.servers,(x.servers.length:Int),(k:Int),()),((x.now,x.servers,x.sides,x.master.configs,x.master.activated,x.masterUp,x.lease.epoch,x.lease.holder,x.lease.ends,x.places,()),(0,(),(),(),0,0,0,0,0,(),()),(x.now,(),x.sides,x.master.configs,x.master.activated,x.masterUp,x.lease.epoch,x.lease.holder,x.lease.ends,x.places,()),()),(b,()))) (fun k b=>b=x.servers.take k) (fun _ _ _=>(((),(),(),()),((x.now,x.servers,x.sides,x.master.configs,x.master.activated,x.masterUp,x.lease.epoch,x.lease.holder,x.lease.ends,x.places,()),(0,(),(),(),0,0,0,0,0,(),()),(x.now,(),x.sides,x.master.configs,x.master.activated,x.masterUp,x.lease.epoch,x.lease.holder,x.lease.ends,x.places,()),()),(x.servers,())))
  (fun b hb=>by
    simp only [dC,gP]
    rw [aB,if_neg (by omega),hb,List.take_length])
  (fun k b c hx hb=>by
    have hk:=jD hx
    have c1: (k:Int) < (x.servers.length:Int):=by omega
    have c2: (0:Int)≤(k:Int):=by omega
    subst hb
    refine .inl ⟨x.servers.take (k+1),?_,rfl,rfl⟩
    simp only [dC,gP,aB,bB,if_pos c1,if_pos c2,Int.toNat_natCast,hx,Option.bind_some,(Pr c (hs c (List.mem_of_getElem? hx))).2,bM (fg hl) hk,if_pos (GQ (qG x.servers k c hl) (show 152≤1000 by decide)),pF hx])
  0 [] (Nat.zero_le _) rfl
 unfold pf qW jh lN
 rw [show rS (((),(),(),0,()),((x.now,x.servers,x.sides,x.master.configs,x.master.activated,x.masterUp,x.lease.epoch,x.lease.holder,x.lease.ends,x.places,()),(0,(),(),(),0,0,0,0,0,(),()),(x.now,(),x.sides,x.master.configs,x.master.activated,x.masterUp,x.lease.epoch,x.lease.holder,x.lease.ends,x.places,()),()),(([]:List ak),()))=_ from k1,
  show nv (((),(),(),x.servers,(x.servers.length:Int),0,()),((x.now,x.servers,x.sides,x.master.configs,x.master.activated,x.masterUp,x.lease.epoch,x.lease.holder,x.lease.ends,x.places,()),(0,(),(),(),0,0,0,0,0,(),()),(x.now,(),x.sides,x.master.configs,x.master.activated,x.masterUp,x.lease.epoch,x.lease.holder,x.lease.ends,x.places,()),()),(([]:List ak),()))=_ from k2]
 have em: (⟨x.master.configs,x.master.activated⟩:an)=x.master:=rfl
 simp only [Option.bind_some,List.nil_append,em,(Sy _ hml).1,(Sy _ hml).2,TW _ hsd,OD _ hpl,bB,if_pos (GQ (Nat.le_succ_of_le hsd) (show 8≤1000 by decide)),if_pos (GQ (Nat.le_succ_of_le hpl) (show 24≤1000 by decide))]
 exact⟨trivial,trivial⟩
theorem OE {s:ak} {id:Int} (hv:cZ s id=some (true,())):s.version=1∨s.version=2:=by
 unfold cZ gO at hv
 simp only [AU,Option.bind_some,qd] at hv
 cases h1:wQ s.version 1 2 with
 | false=>rw [h1] at hv; cases hv
 | true=>
   have:=qE.1 h1
   omega
theorem good (x:ao) (id:Int) (ok:sL 1048576 x): ∃ b,pm x id=some (b,())∧jj x id=some (b,())∧(b=true→dc x=some (true,())∧0≤id∧id < 5):=by
 obtain⟨v,v1,v2⟩:=KF x ok
 unfold pm rd jj l5
 simp only [v1,v2,Option.bind_some,AU,Ch]
 cases v with
 | false=>exact⟨false,rfl,rfl,nofun⟩
 | true=>
   refine⟨wQ id 0 4,rfl,rfl,fun h=>⟨rfl,?_⟩⟩
   have:=qE.1 h
   omega
theorem VT (y:ao) (ok:sL 1048576 y) (hb:Nd y≤100000000):eh (⟨y.now,(QF y 1).servers,(QF y 1).sides,(⟨(QF y 1).master.configs,y.master.activated⟩:an),y.masterUp,y.lease,(QF y 1).places⟩:ao) 1=some (1+Sx y,()):=(wt y 1 (by decide) (by omega) ok).2
theorem M9 (y:ao): (QF y 1).servers.length=y.servers.length∧(QF y 1).sides.length=y.sides.length∧(QF y 1).master.configs.length=y.master.configs.length∧(QF y 1).places.length=y.places.length:=
 ⟨fy _ _ _ _,fy _ _ _ _,fy _ _ _ _,fy _ _ _ _⟩
end Go.Proofs.YtkcgfceffffmoaaGreat.En
