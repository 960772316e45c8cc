/- Copies of clusters; the version of a server. -/
import Derived.Test.YtkcgfceffffmoaaGreatZPNew
import Derived.Test.YtkcgfceffffmoaaGreatZPMk
namespace Go.Proofs.YtkcgfceffffmoaaGreat.En
open Go
theorem Ja {n c:Nat} (h:n≤1048577) (hc:c≤1000):n*c≤2 ^ 40:=by
 have h1:n*c≤1048577*1000:=Nat.mul_le_mul h hc
 have h2: (2:Nat) ^ 40=1099511627776:=by decide
 omega
theorem GD (c:ai) (h:ll 1048576 c):ni c=some (c,())∧fC c=some (c,()):=by
 have a:=h.1
 have b:=h.2
 unfold ni sK fC mh
 simp only [List.nil_append,bE,if_pos (Ja (Nat.le_succ_of_le a) (show 8≤1000 by decide)),if_pos (Ja (Nat.le_succ_of_le b) (show 8≤1000 by decide))]
 exact⟨trivial,trivial⟩
theorem GF (l:List az) (h:l.length≤1048576):ru l=some (l,())∧kU l=some (l,()):=by
 unfold ru uV kU wt
 simp only [List.nil_append,bE,if_pos (Ja (Nat.le_succ_of_le h) (show 56≤1000 by decide))]
 exact⟨trivial,trivial⟩
theorem V8 (l:List Int) (h:l.length≤1048576):lE l=some (l,()):=by
 unfold lE uw
 simp only [bE,if_pos (Ja (Nat.le_succ_of_le h) (show 8≤1000 by decide))]
theorem QP (l:List aU) (h:l.length≤1048576):ns l=some (l,()):=by
 unfold ns wv
 simp only [bE,if_pos (Ja (Nat.le_succ_of_le h) (show 24≤1000 by decide))]
theorem RC (s:aj) (h:qD 1048576 s):qP s=some (s,())∧lD s=some (s,()):=by
 unfold qP sT lD oI
 simp only [(GD _ h.1).1,(GD _ h.1).2,(GF _ h.2.1).1,(GF _ h.2.1).2,(GF _ h.2.2).1,(GF _ h.2.2).2,Option.bind_some]
 exact⟨trivial,trivial⟩
theorem rn {α:Type} {l:List α} {k:Nat} {x:α} (h:l[k]? =some x):l.take (k+1)=l.take k++ [x] :=by rw [List.take_add_one,h]; rfl
theorem sF {α:Type} (l:List α) (k:Nat) (x:α) (h:l.length≤1048576): (l.take k++ [x]).length≤1048577:=by
 rw [List.length_append,List.length_take,List.length_singleton]
 omega
theorem US (m:an) (h:I2 1048576 m):qQ m=some (m,())∧lF m=some (m,()):=by
 obtain⟨hl,hc⟩:=h
 have k1:=ox (B:=iB) m.configs (fun k (b:List ai)=>(((),(),(),(k:Int),()),((m.configs,m.activated,()),((),0,()),((),m.activated,()),()),(b,()))) (fun k b=>b=m.configs.take k) (fun _ _ _=>(((),(),()),(((),0,()),((),m.activated,()),()),(m.configs,())))
  (fun b hb=>by
    simp only [iB,n5]
    rw [ay,if_neg (by omega),hb,List.take_length])
  (fun k b c hx hb=>by
    have hk:=kG hx
    have c1: (k:Int) < (m.configs.length:Int):=by omega
    have c2: (0:Int)≤(k:Int):=by omega
    subst hb
    refine .inl ⟨m.configs.take (k+1),?_,rfl,rfl⟩
    simp only [iB,n5,ay,bE,if_pos c1,if_pos c2,Int.toNat_natCast,hx,Option.bind_some,(GD c (hc c (List.mem_of_getElem? hx))).1,bO (eX hl) hk,if_pos (Ja (sF m.configs k c hl) (show 64≤1000 by decide)),rn hx])
  0 [] (Nat.zero_le _) rfl
 have k2:=ox (B:=eL) m.configs (fun k (b:List ai)=>(((),(),m.configs,(m.configs.length:Int),(k:Int),()),(((),0,()),((),m.activated,()),()),(b,()))) (fun k b=>b=m.configs.take k) (fun _ _ _=>(((),(),()),(((),0,()),((),m.activated,()),()),(m.configs,())))
  (fun b hb=>by
    simp only [eL,jF]
    rw [ay,if_neg (by omega),hb,List.take_length])
  (fun k b c hx hb=>by
    have hk:=kG hx
    have c1: (k:Int) < (m.configs.length:Int):=by omega
    have c2: (0:Int)≤(k:Int):=by omega
    subst hb
    refine .inl ⟨m.configs.take (k+1),?_,rfl,rfl⟩
    simp only [eL,jF,ay,bE,if_pos c1,if_pos c2,Int.toNat_natCast,hx,Option.bind_some,(GD c (hc c (List.mem_of_getElem? hx))).2,bO (eX hl) hk,if_pos (Ja (sF m.configs k c hl) (show 64≤1000 by decide)),rn hx])
  0 [] (Nat.zero_le _) rfl
 unfold qQ sU lF oJ
 rw [show tQ (((),(),(),0,()),((m.configs,m.activated,()),((),0,()),((),m.activated,()),()),(([]:List ai),()))=_ from k1,show qc (((),(),m.configs,(m.configs.length:Int),0,()),(((),0,()),((),m.activated,()),()),(([]:List ai),()))=_ from k2]
 exact⟨rfl,rfl⟩
theorem UT (x:ao) (ok:tC 1048576 x):qR x=some (x,())∧ft x=some (x,()):=by
 obtain⟨⟨hl,hs⟩,hsd,hml,hpl⟩:=ok
 have k1:=ox (B:=iC) x.servers (fun k (b:List aj)=>(((),(),(),(k:Int),()),((x.now,x.servers,x.sides,x.master.configs,x.master.activated,x.masterUp,x.lease.epoch,x.lease.holder,x.lease.ends,x.places,()),(0,(),(),(),0,0,0,0,0,(),()),(x.now,(),x.sides,x.master.configs,x.master.activated,x.masterUp,x.lease.epoch,x.lease.holder,x.lease.ends,x.places,()),()),(b,()))) (fun k b=>b=x.servers.take k) (fun _ _ _=>(((),(),(),()),((x.now,x.servers,x.sides,x.master.configs,x.master.activated,x.masterUp,x.lease.epoch,x.lease.holder,x.lease.ends,x.places,()),(0,(),(),(),0,0,0,0,0,(),()),(x.now,(),x.sides,x.master.configs,x.master.activated,x.masterUp,x.lease.epoch,x.lease.holder,x.lease.ends,x.places,()),()),(x.servers,())))
  (fun b hb=>by
    simp only [iC,n6]
    rw [ay,if_neg (by omega),hb,List.take_length])
  (fun k b c hx hb=>by
    have hk:=kG hx
    have c1: (k:Int) < (x.servers.length:Int):=by omega
    have c2: (0:Int)≤(k:Int):=by omega
    subst hb
    refine .inl ⟨x.servers.take (k+1),?_,rfl,rfl⟩
    simp only [iC,n6,ay,bE,if_pos c1,if_pos c2,Int.toNat_natCast,hx,Option.bind_some,(RC c (hs c (List.mem_of_getElem? hx))).1,bO (eX hl) hk,if_pos (Ja (sF x.servers k c hl) (show 152≤1000 by decide)),rn hx])
  0 [] (Nat.zero_le _) rfl
 have k2:=ox (B:=ei) x.servers (fun k (b:List aj)=>(((),(),(),x.servers,(x.servers.length:Int),(k:Int),()),((x.now,x.servers,x.sides,x.master.configs,x.master.activated,x.masterUp,x.lease.epoch,x.lease.holder,x.lease.ends,x.places,()),(0,(),(),(),0,0,0,0,0,(),()),(x.now,(),x.sides,x.master.configs,x.master.activated,x.masterUp,x.lease.epoch,x.lease.holder,x.lease.ends,x.places,()),()),(b,()))) (fun k b=>b=x.servers.take k) (fun _ _ _=>(((),(),(),()),((x.now,x.servers,x.sides,x.master.configs,x.master.activated,x.masterUp,x.lease.epoch,x.lease.holder,x.lease.ends,x.places,()),(0,(),(),(),0,0,0,0,0,(),()),(x.now,(),x.sides,x.master.configs,x.master.activated,x.masterUp,x.lease.epoch,x.lease.holder,x.lease.ends,x.places,()),()),(x.servers,())))
  (fun b hb=>by
    simp only [ei,iV]
    rw [ay,if_neg (by omega),hb,List.take_length])
  (fun k b c hx hb=>by
    have hk:=kG hx
    have c1: (k:Int) < (x.servers.length:Int):=by omega
    have c2: (0:Int)≤(k:Int):=by omega
    subst hb
    refine .inl ⟨x.servers.take (k+1),?_,rfl,rfl⟩
    simp only [ei,iV,ay,bE,if_pos c1,if_pos c2,Int.toNat_natCast,hx,Option.bind_some,(RC c (hs c (List.mem_of_getElem? hx))).2,bO (eX hl) hk,if_pos (Ja (sF x.servers k c hl) (show 152≤1000 by decide)),rn hx])
  0 [] (Nat.zero_le _) rfl
 unfold qR sV ft nu
 rw [show tR (((),(),(),0,()),((x.now,x.servers,x.sides,x.master.configs,x.master.activated,x.masterUp,x.lease.epoch,x.lease.holder,x.lease.ends,x.places,()),(0,(),(),(),0,0,0,0,0,(),()),(x.now,(),x.sides,x.master.configs,x.master.activated,x.masterUp,x.lease.epoch,x.lease.holder,x.lease.ends,x.places,()),()),(([]:List aj),()))=_ from k1,
  show o6 (((),(),(),x.servers,(x.servers.length:Int),0,()),((x.now,x.servers,x.sides,x.master.configs,x.master.activated,x.masterUp,x.lease.epoch,x.lease.holder,x.lease.ends,x.places,()),(0,(),(),(),0,0,0,0,0,(),()),(x.now,(),x.sides,x.master.configs,x.master.activated,x.masterUp,x.lease.epoch,x.lease.holder,x.lease.ends,x.places,()),()),(([]:List aj),()))=_ from k2]
 have em: (⟨x.master.configs,x.master.activated⟩:an)=x.master:=rfl
 simp only [Option.bind_some,List.nil_append,em,(US _ hml).1,(US _ hml).2,V8 _ hsd,QP _ hpl,bE,if_pos (Ja (Nat.le_succ_of_le hsd) (show 8≤1000 by decide)),if_pos (Ja (Nat.le_succ_of_le hpl) (show 24≤1000 by decide))]
 exact⟨trivial,trivial⟩
theorem QQ {s:aj} {id:Int} (hv:dz s id=some (true,())):s.version=1∨s.version=2:=by
 unfold dz iU at hv
 simp only [CZ,Option.bind_some,qE] at hv
 cases h1:yW s.version 1 2 with
 | false=>rw [h1] at hv; cases hv
 | true=>
   have:=sD.1 h1
   omega
theorem good (x:ao) (id:Int) (ok:tC 1048576 x): ∃ b,qX x id=some (b,())∧kn x id=some (b,())∧(b=true→dH x=some (true,())∧0≤id∧id < 5):=by
 obtain⟨v,v1,v2⟩:=MW x ok
 unfold qX s6 kn nJ
 simp only [v1,v2,Option.bind_some,CZ,Et]
 cases v with
 | false=>exact⟨false,rfl,rfl,nofun⟩
 | true=>
   refine⟨yW id 0 4,rfl,rfl,fun h=>⟨rfl,?_⟩⟩
   have:=sD.1 h
   omega
theorem X4 (y:ao) (ok:tC 1048576 y) (hb:Pp y≤100000000):eW (⟨y.now,(S4 y 1).servers,(S4 y 1).sides,(⟨(S4 y 1).master.configs,y.master.activated⟩:an),y.masterUp,y.lease,(S4 y 1).places⟩:ao) 1=some (1+UR y,()):=(yz y 1 (by decide) (by omega) ok).2
theorem Pu (y:ao): (S4 y 1).servers.length=y.servers.length∧(S4 y 1).sides.length=y.sides.length∧(S4 y 1).master.configs.length=y.master.configs.length∧(S4 y 1).places.length=y.places.length:=
 ⟨gx _ _ _ _,gx _ _ _ _,gx _ _ _ _,gx _ _ _ _⟩
end Go.Proofs.YtkcgfceffffmoaaGreat.En
