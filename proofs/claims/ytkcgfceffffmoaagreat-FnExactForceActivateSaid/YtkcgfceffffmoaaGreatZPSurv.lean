/- The longest survivor. -/
import Derived.Test.YtkcgfceffffmoaaGreatZPData
import Derived.Test.YtkcgfceffffmoaaGreatZPAlive
namespace Go.Proofs.YtkcgfceffffmoaaGreat.En
open Go
def wZ (x:aj) (id:Int):List ar:=match x.servers[id.toNat]? with | some s=>IG s id | none=> []
theorem aak (x:aj) (ok:rl 1048576 x) (hv:bn x=some (true,())) (id:Int) (h0:0≤id) (h5:id < 5):mH x id=some (wZ x id,()):=by
 have vc:=Cw ok hv
 have hlt:id.toNat < x.servers.length:=by rw [vc.len]; omega
 have hs:=ok.1.2 _ (List.getElem_mem hlt)
 have hsv:=vc.srv id.toNat hlt
 rw [show ((id.toNat:Nat):Int)=id by omega] at hsv
 unfold mH vI wZ
 rw [fm h0,List.getElem?_eq_getElem hlt]
 simp only [Option.bind_some,(Se _ id hs hsv).1]
def mc (x:aj) (b id:Int):Int:=if b < 0 then id else if (wZ x id).length > (wZ x b).length then id else b
theorem Qn (x:aj) {b id:Int} (hb:b < 0∨(0≤b∧b < 5)) (h0:0≤id) (h5:id < 5):0≤mc x b id∧mc x b id < 5:=by
 unfold mc
 split
 ·exact⟨h0,h5⟩
 ·split
  ·exact⟨h0,h5⟩
  ·omega
theorem U1 (x:aj) (ok:rl 1048576 x) (hv:bn x=some (true,())):eo x=some ((Ai (nJ x) 5).foldl (mc x) (-1),()):=by
 have ex: (⟨x.now,x.servers,x.sides,⟨x.master.configs,x.master.activated⟩,x.masterUp,⟨x.lease.epoch,x.lease.holder,x.lease.ends⟩,x.places⟩:aj)=x:=rfl
 have hl:=Li (nJ x) 5
 have hm: (Ai (nJ x) 5).length≤maxLen:=Nat.le_trans hl (by decide)
 have bU:=li (B:=cK) (Ai (nJ x) 5) (fun k (b:Int)=>(((),b,(),(k:Int),()),((x.now,x.servers,x.sides,x.master.configs,x.master.activated,x.masterUp,x.lease.epoch,x.lease.holder,x.lease.ends,x.places,()),()),(Ai (nJ x) 5,()))) (fun _ b=>b < 0∨(0≤b∧b < 5)) (fun _ r b=>((r.foldl (mc x) b,()),(),()))
  (fun b hb=>by
    simp only [cK,eF]
    rw [aw,if_neg (by omega)]
    rfl)
  (fun k b id hid hb=>by
    have hk:=jE hid
    obtain⟨j,j1,_,j2⟩:=(GZ _ _ _).1 (List.mem_of_getElem? hid)
    have h0:0≤id:=by omega
    have h5:id < 5:=by omega
    have c1: (k:Int) < ((Ai (nJ x) 5).length:Int):=by omega
    have c2: (0:Int)≤(k:Int)∧(k:Int) < ((Ai (nJ x) 5).length:Int):=by omega
    left
    simp only [cK,eF,aw,be,if_pos c1,if_pos c2,Int.toNat_natCast,hid,Option.bind_some,ex,hv,bA,bF hm hk]
    refine⟨mc x b id,?_, .inr (Qn x hb h0 h5),rfl⟩
    by_cases hneg:b < 0
    ·rw [if_pos hneg]
     have :mc x b id=id:=if_pos hneg
     rw [this]
    ·rw [if_neg hneg]
     have hb':0≤b∧b < 5:=by omega
     simp only [aak x ok hv id h0 h5,aak x ok hv b hb'.1 hb'.2,Option.bind_some]
     by_cases hgt: (wZ x id).length > (wZ x b).length
     ·rw [if_pos (by omega)]
      have :mc x b id=id:=by unfold mc; rw [if_neg hneg,if_pos hgt]
      rw [this]
     ·rw [if_neg (by omega)]
      have :mc x b id=b:=by unfold mc; rw [if_neg hneg,if_neg hgt]
      rw [this])
  0 (-1) (Nat.zero_le _) (.inl (by decide))
 unfold eo ii
 rw [adP x ok hv]
 simp only [Option.bind_some]
 rw [show jx (((),-1,(),0,()),((x.now,x.servers,x.sides,x.master.configs,x.master.activated,x.masterUp,x.lease.epoch,x.lease.holder,x.lease.ends,x.places,()),()),(Ai (nJ x) 5,()))=_ from bU]
 rfl
theorem aal (x:aj) (ok:rl 1048576 x) (hv:bn x=some (true,())) (hi:dk x=some (true,())):ew x=some ((Ai (nJ x) 5).foldl (mc x) (-1),()):=by
 have ex: (⟨x.now,x.servers,x.sides,⟨x.master.configs,x.master.activated⟩,x.masterUp,⟨x.lease.epoch,x.lease.holder,x.lease.ends⟩,x.places⟩:aj)=x:=rfl
 have vc:=Cw ok hv
 have hl:=vc.len
 have hsl:=NW (dH ok.2.1) vc.sides
 have bU:=li (B:=de) x.servers (fun k (b:Int×Int)=>(((),b.1,b.2,x.servers,(x.servers.length:Int),(k:Int),()),((x.now,x.servers,x.sides,x.master.configs,x.master.activated,x.masterUp,x.lease.epoch,x.lease.holder,x.lease.ends,x.places,()),()),())) (fun k b=>b.1=(Ai (nJ x) k).foldl (mc x) (-1)∧(b.1 < 0∨(0≤b.1∧b.1 < 5∧b.2=((wZ x b.1).length:Int)))) (fun _ _ _=>(((Ai (nJ x) 5).foldl (mc x) (-1),()),(),()))
  (fun b hb=>by
    simp only [de,f7]
    rw [aw,if_neg (by omega),hb.1,hl])
  (fun k b s hs hb=>by
    have hk:=jE hs
    have hlt:k < x.sides.length:=by omega
    have c1: (k:Int) < (x.servers.length:Int):=by omega
    have c2: (0:Int)≤(k:Int):=by omega
    have hse:x.servers[k] =s:=by rw [List.getElem?_eq_getElem hk] at hs; exact Option.some.inj hs
    have hsv:=vc.srv k hk
    rw [hse] at hsv
    have hso:kS 1048576 s:=ok.1.2 s (List.mem_of_getElem? hs)
    have hdat:wZ x (k:Int)=IG s (k:Int):=by unfold wZ; rw [Int.toNat_natCast,hs]
    have hus:rK x (k:Int)=some (nJ x k,()):=by
     unfold rK uo nJ Sf zo
     simp only [be,if_pos c2,Int.toNat_natCast,hs,List.getElem?_eq_getElem hlt,Option.bind_some]
     cases s.up <;> rfl
    left
    simp only [de,f7,aw,be,if_pos c1,if_pos c2,Int.toNat_natCast,hs,Option.bind_some,ex,(Se s (k:Int) hso hsv).2,hus,bF (dH ok.1.1) hk,NV]
    obtain⟨hb1,hb2⟩:=hb
    cases ha:nJ x k with
    | false=>
      simp only [bJ]
      exact⟨b,rfl,⟨by rw [hb1]; simp,hb2⟩,trivial⟩
    | true=>
      simp only [bA,if_true,List.foldl_append,List.foldl_cons,List.foldl_nil,←hb1]
      by_cases hneg:b.1 < 0
      ·rw [if_pos hneg]
       exact⟨((k:Int),((IG s (k:Int)).length:Int)),rfl,⟨(if_pos hneg:mc x b.1 (k:Int)=(k:Int)).symm, .inr ⟨by omega,by simp only; omega,by rw [hdat]⟩⟩,trivial⟩
      ·rw [if_neg hneg]
       have hb':0≤b.1∧b.1 < 5∧b.2=((wZ x b.1).length:Int):=by
        rcases hb2 with h | h
        ·exact absurd h hneg
        ·exact h
       by_cases hgt: (wZ x (k:Int)).length > (wZ x b.1).length
       ·rw [if_pos (by rw [hb'.2.2,←hdat]; omega)]
        exact⟨((k:Int),((IG s (k:Int)).length:Int)),rfl,⟨by unfold mc; rw [if_neg hneg,if_pos hgt], .inr ⟨by omega,by simp only; omega,by rw [hdat]⟩⟩,trivial⟩
       ·rw [if_neg (by rw [hb'.2.2,←hdat]; omega)]
        exact⟨b,rfl,⟨by unfold mc; rw [if_neg hneg,if_neg hgt],hb2⟩,trivial⟩)
  0 (-1,0) (Nat.zero_le _) ⟨rfl, .inl (by decide)⟩
 unfold ew im
 rw [hi]
 simp only [Option.bind_some,Bool.not_true,bJ]
 rw [show mi (((),-1,0,x.servers,(x.servers.length:Int),0,()),((x.now,x.servers,x.sides,x.master.configs,x.master.activated,x.masterUp,x.lease.epoch,x.lease.holder,x.lease.ends,x.places,()),()),())=_ from bU]
 rfl
theorem K0 (x:aj) (hl:x.servers.length≤1048576) (hv:bn x=some (false,())):ln x=some ([],()):=by
 have ex: (⟨x.now,x.servers,x.sides,⟨x.master.configs,x.master.activated⟩,x.masterUp,⟨x.lease.epoch,x.lease.holder,x.lease.ends⟩,x.places⟩:aj)=x:=rfl
 unfold ln p9
 have :qQ (((),(),0,()),((x.now,x.servers,x.sides,x.master.configs,x.master.activated,x.masterUp,x.lease.epoch,x.lease.holder,x.lease.ends,x.places,()),()),([],()))=some (((),()),(),([],())):=by
  refine nK ?_
  simp only [fx,kw,ex,hv,Option.bind_some,bJ,aw]
  split <;> rfl
 rw [this]
 rfl
theorem IH (l:List Int) (hl:l.length≤1048576): ∃ r,jG l=some (r,())∧r.length≤maxLen:=by
 obtain⟨b,h1,h2⟩:=GV l (dH hl)
 cases b with
 | true=>
   have h5:=NW (dH hl) h1
   exact⟨_,NX l h5 h1,Nat.le_trans (Li _ _) (by decide)⟩
 | false=>
   refine⟨[],?_,Nat.zero_le _⟩
   unfold jG oc
   have :pf ((l,(),0,()),(),([],()))=some (((),()),(),([],())):=by
    refine nK ?_
    simp only [eE,jf,h1,Option.bind_some,bJ,aw]
    split <;> rfl
   rw [this]
   rfl
theorem abH (x:aj) (ok:rl 1048576 x):xM (eo x) (ew x):=by
 obtain⟨b,v1,v2⟩:=vd x ok
 cases b with
 | true=>exact⟨_,U1 x ok v1,aal x ok v1 v2⟩
 | false=>
   obtain⟨r,r1,r2⟩:=IH x.sides ok.2.1
   have hc:fJ [] r=some ([],()):=Le [] r (fun k hk=>absurd hk (Nat.not_lt_zero k)) r2
   unfold eo ii ew im pg rZ
   simp only [K0 x ok.1.1 v1,r1,hc,v2,Option.bind_some,Bool.not_false,bA]
   have :jx (((),-1,(),0,()),((x.now,x.servers,x.sides,x.master.configs,x.master.activated,x.masterUp,x.lease.epoch,x.lease.holder,x.lease.ends,x.places,()),()),([],()))=some ((-1,()),(),()):=by
    refine nK ?_
    simp only [cK,eF]
    rw [aw,if_neg (by simp)]
   rw [this]
   exact⟨_,rfl,rfl⟩
end Go.Proofs.YtkcgfceffffmoaaGreat.En
