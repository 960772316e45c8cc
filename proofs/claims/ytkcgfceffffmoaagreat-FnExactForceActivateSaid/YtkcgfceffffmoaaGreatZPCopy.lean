/- Copies of clusters; the version of a server. -/
import Derived.Test.YtkcgfceffffmoaaGreatZPNew
import Derived.Test.YtkcgfceffffmoaaGreatZPMk
namespace Go.Proofs.YtkcgfceffffmoaaGreat.En
open Go
theorem KZ {n c:Nat} (h:n≤1048577) (hc:c≤1000):n*c≤2 ^ 40:=by
 have h1:n*c≤1048577*1000:=Nat.mul_le_mul h hc
 have h2: (2:Nat) ^ 40=1099511627776:=by decide
 omega
theorem wX (c:ai) (h:iA 1048576 c):jt c=some (c,())∧dJ c=some (c,()):=by
 have a:=h.1
 have b:=h.2
 unfold jt tC dJ lW
 simp only [List.nil_append,be,if_pos (KZ (Nat.le_succ_of_le a) (show 8≤1000 by decide)),if_pos (KZ (Nat.le_succ_of_le b) (show 8≤1000 by decide))]
 exact⟨trivial,trivial⟩
theorem wY (l:List ar) (h:l.length≤1048576):ju l=some (l,())∧dt l=some (l,()):=by
 unfold ju tD dt rt
 simp only [List.nil_append,be,if_pos (KZ (Nat.le_succ_of_le h) (show 56≤1000 by decide))]
 exact⟨trivial,trivial⟩
theorem abC (l:List Int) (h:l.length≤1048576):nz l=some (l,()):=by
 unfold nz xj
 simp only [be,if_pos (KZ (Nat.le_succ_of_le h) (show 8≤1000 by decide))]
theorem Wx (l:List aU) (h:l.length≤1048576):pk l=some (l,()):=by
 unfold pk zK
 simp only [be,if_pos (KZ (Nat.le_succ_of_le h) (show 24≤1000 by decide))]
theorem Lh (s:am) (h:kS 1048576 s):j6 s=some (s,())∧eW s=some (s,()):=by
 unfold j6 vw eW qR
 simp only [(wX _ h.1).1,(wX _ h.1).2,(wY _ h.2.1).1,(wY _ h.2.1).2,(wY _ h.2.2).1,(wY _ h.2.2).2,Option.bind_some]
 exact⟨trivial,trivial⟩
theorem t6 {α:Type} {l:List α} {k:Nat} {x:α} (h:l[k]? =some x):l.take (k+1)=l.take k++ [x] :=by rw [List.take_add_one,h]; rfl
theorem ve {α:Type} (l:List α) (k:Nat) (x:α) (h:l.length≤1048576): (l.take k++ [x]).length≤1048577:=by
 rw [List.length_append,List.length_take,List.length_singleton]
 omega
theorem IE (m:ak) (h:AE 1048576 m):pZ m=some (m,())∧jH m=some (m,()):=by
 obtain⟨hl,hc⟩:=h
 have k1:=li (B:=jP) m.configs (fun k (b:List ai)=>(((),(),(),(k:Int),()),((m.configs,m.activated,()),((),0,()),((),m.activated,()),()),(b,()))) (fun k b=>b=m.configs.take k) (fun _ _ _=>(((),(),()),(((),0,()),((),m.activated,()),()),(m.configs,())))
  (fun b hb=>by
    simp only [jP,pY]
    rw [aw,if_neg (by omega),hb,List.take_length])
  (fun k b c hx hb=>by
    have hk:=jE hx
    have c1: (k:Int) < (m.configs.length:Int):=by omega
    have c2: (0:Int)≤(k:Int):=by omega
    subst hb
    refine .inl ⟨m.configs.take (k+1),?_,rfl,rfl⟩
    simp only [jP,pY,aw,be,if_pos c1,if_pos c2,Int.toNat_natCast,hx,Option.bind_some,(wX c (hc c (List.mem_of_getElem? hx))).1,bF (dH hl) hk,if_pos (KZ (ve m.configs k c hl) (show 64≤1000 by decide)),t6 hx])
  0 [] (Nat.zero_le _) rfl
 have k2:=li (B:=fA) m.configs (fun k (b:List ai)=>(((),(),m.configs,(m.configs.length:Int),(k:Int),()),(((),0,()),((),m.activated,()),()),(b,()))) (fun k b=>b=m.configs.take k) (fun _ _ _=>(((),(),()),(((),0,()),((),m.activated,()),()),(m.configs,())))
  (fun b hb=>by
    simp only [fA,kX]
    rw [aw,if_neg (by omega),hb,List.take_length])
  (fun k b c hx hb=>by
    have hk:=jE hx
    have c1: (k:Int) < (m.configs.length:Int):=by omega
    have c2: (0:Int)≤(k:Int):=by omega
    subst hb
    refine .inl ⟨m.configs.take (k+1),?_,rfl,rfl⟩
    simp only [fA,kX,aw,be,if_pos c1,if_pos c2,Int.toNat_natCast,hx,Option.bind_some,(wX c (hc c (List.mem_of_getElem? hx))).2,bF (dH hl) hk,if_pos (KZ (ve m.configs k c hl) (show 64≤1000 by decide)),t6 hx])
  0 [] (Nat.zero_le _) rfl
 unfold pZ vx jH qS
 rw [show wy (((),(),(),0,()),((m.configs,m.activated,()),((),0,()),((),m.activated,()),()),(([]:List ai),()))=_ from k1,show sO (((),(),m.configs,(m.configs.length:Int),0,()),(((),0,()),((),m.activated,()),()),(([]:List ai),()))=_ from k2]
 exact⟨rfl,rfl⟩
theorem aag (x:aj) (ok:rl 1048576 x):tE x=some (x,())∧lX x=some (x,()):=by
 obtain⟨⟨hl,hs⟩,hsd,hml,hpl⟩:=ok
 have k1:=li (B:=jQ) x.servers (fun k (b:List am)=>(((),(),(),(k:Int),()),((x.now,x.servers,x.sides,x.master.configs,x.master.activated,x.masterUp,x.lease.epoch,x.lease.holder,x.lease.ends,x.places,()),(0,(),(),(),0,0,0,0,0,(),()),(x.now,(),x.sides,x.master.configs,x.master.activated,x.masterUp,x.lease.epoch,x.lease.holder,x.lease.ends,x.places,()),()),(b,()))) (fun k b=>b=x.servers.take k) (fun _ _ _=>(((),(),(),()),((x.now,x.servers,x.sides,x.master.configs,x.master.activated,x.masterUp,x.lease.epoch,x.lease.holder,x.lease.ends,x.places,()),(0,(),(),(),0,0,0,0,0,(),()),(x.now,(),x.sides,x.master.configs,x.master.activated,x.masterUp,x.lease.epoch,x.lease.holder,x.lease.ends,x.places,()),()),(x.servers,())))
  (fun b hb=>by
    simp only [jQ,p6]
    rw [aw,if_neg (by omega),hb,List.take_length])
  (fun k b c hx hb=>by
    have hk:=jE hx
    have c1: (k:Int) < (x.servers.length:Int):=by omega
    have c2: (0:Int)≤(k:Int):=by omega
    subst hb
    refine .inl ⟨x.servers.take (k+1),?_,rfl,rfl⟩
    simp only [jQ,p6,aw,be,if_pos c1,if_pos c2,Int.toNat_natCast,hx,Option.bind_some,(Lh c (hs c (List.mem_of_getElem? hx))).1,bF (dH hl) hk,if_pos (KZ (ve x.servers k c hl) (show 152≤1000 by decide)),t6 hx])
  0 [] (Nat.zero_le _) rfl
 have k2:=li (B:=eO) x.servers (fun k (b:List am)=>(((),(),(),x.servers,(x.servers.length:Int),(k:Int),()),((x.now,x.servers,x.sides,x.master.configs,x.master.activated,x.masterUp,x.lease.epoch,x.lease.holder,x.lease.ends,x.places,()),(0,(),(),(),0,0,0,0,0,(),()),(x.now,(),x.sides,x.master.configs,x.master.activated,x.masterUp,x.lease.epoch,x.lease.holder,x.lease.ends,x.places,()),()),(b,()))) (fun k b=>b=x.servers.take k) (fun _ _ _=>(((),(),(),()),((x.now,x.servers,x.sides,x.master.configs,x.master.activated,x.masterUp,x.lease.epoch,x.lease.holder,x.lease.ends,x.places,()),(0,(),(),(),0,0,0,0,0,(),()),(x.now,(),x.sides,x.master.configs,x.master.activated,x.masterUp,x.lease.epoch,x.lease.holder,x.lease.ends,x.places,()),()),(x.servers,())))
  (fun b hb=>by
    simp only [eO,j9]
    rw [aw,if_neg (by omega),hb,List.take_length])
  (fun k b c hx hb=>by
    have hk:=jE hx
    have c1: (k:Int) < (x.servers.length:Int):=by omega
    have c2: (0:Int)≤(k:Int):=by omega
    subst hb
    refine .inl ⟨x.servers.take (k+1),?_,rfl,rfl⟩
    simp only [eO,j9,aw,be,if_pos c1,if_pos c2,Int.toNat_natCast,hx,Option.bind_some,(Lh c (hs c (List.mem_of_getElem? hx))).2,bF (dH hl) hk,if_pos (KZ (ve x.servers k c hl) (show 152≤1000 by decide)),t6 hx])
  0 [] (Nat.zero_le _) rfl
 unfold tE vy lX pm
 rw [show wz (((),(),(),0,()),((x.now,x.servers,x.sides,x.master.configs,x.master.activated,x.masterUp,x.lease.epoch,x.lease.holder,x.lease.ends,x.places,()),(0,(),(),(),0,0,0,0,0,(),()),(x.now,(),x.sides,x.master.configs,x.master.activated,x.masterUp,x.lease.epoch,x.lease.holder,x.lease.ends,x.places,()),()),(([]:List am),()))=_ from k1,
  show ru (((),(),(),x.servers,(x.servers.length:Int),0,()),((x.now,x.servers,x.sides,x.master.configs,x.master.activated,x.masterUp,x.lease.epoch,x.lease.holder,x.lease.ends,x.places,()),(0,(),(),(),0,0,0,0,0,(),()),(x.now,(),x.sides,x.master.configs,x.master.activated,x.masterUp,x.lease.epoch,x.lease.holder,x.lease.ends,x.places,()),()),(([]:List am),()))=_ from k2]
 have em: (⟨x.master.configs,x.master.activated⟩:ak)=x.master:=rfl
 simp only [Option.bind_some,List.nil_append,em,(IE _ hml).1,(IE _ hml).2,abC _ hsd,Wx _ hpl,be,if_pos (KZ (Nat.le_succ_of_le hsd) (show 8≤1000 by decide)),if_pos (KZ (Nat.le_succ_of_le hpl) (show 24≤1000 by decide))]
 exact⟨trivial,trivial⟩
theorem adN (y:aj) (ok:rl 1048576 y) (hb:Pz y≤100000000):eU (⟨y.now,(Xe y 1).servers,(Xe y 1).sides,(⟨(Xe y 1).master.configs,y.master.activated⟩:ak),y.masterUp,y.lease,(Xe y 1).places⟩:aj) 1=some (1+U3 y,()):=(B3 y 1 (by decide) (by omega) ok).2
theorem UX (y:aj): (Xe y 1).servers.length=y.servers.length∧(Xe y 1).sides.length=y.sides.length∧(Xe y 1).master.configs.length=y.master.configs.length∧(Xe y 1).places.length=y.places.length:=
 ⟨iv _ _ _ _,iv _ _ _ _,iv _ _ _ _,iv _ _ _ _⟩
end Go.Proofs.YtkcgfceffffmoaaGreat.En
