/- Plain laws. -/
import Derived.Test.YtadabkgmdllbfaaGreatZPT6
namespace Go.Proofs.YtadabkgmdllbfaaGreat.En
open Go
section
variable [dP]
theorem Tt.dn {α β:Type} {Q:α->Prop} {Q':β->Prop} {r:Option (List fT×α)} {k:List fT×α->Option β} (h:Dn Q r) (hk: ∀c a,fF c->Q a->Tt Q' (k ([c],a))):Tt Q' (r.bind k):=by obtain⟨c,a,rfl,h1,h2⟩:=h;exact hk c a h1 h2
theorem Dn.tt {α β:Type} {Q:α->Prop} {Q':β->Prop} {r:Option α} {k:α->Option (List fT×β)} (h:Tt Q r) (hk: ∀a,Q a->Dn Q' (k a)):Dn Q' (r.bind k):=by obtain⟨a,rfl,h⟩:=h;exact hk a h
theorem NF {α:Type} {Q:α->Prop} {r:Option (List fT×α)} (h:Tt (fun y=> ∃c,y.1= [c] /\fF c/\Q y.2) r):Dn Q r:=by obtain⟨⟨_,a⟩,rfl,c,rfl,h1,h2⟩:=h;exact⟨c,a,rfl,h1,h2⟩
theorem NG {c:fT} (h:fF c):Dn (fun y:List Int×Unit=>rz y.1) (pm [c]):=by
 refine NF ?_;unfold pm;refine .bind (.count (B:=tw) (E:=fun e=> ∃c,e.2.2.1= [c] /\fF c/\rz e.2.2.2.1) 5 (fun k (b:fT×List Int)=>(((),(),(k:Int),()),(),[b.1],b.2,())) (fun k b=>fF b.1/\b.2.length<=k/\SS b.2/\ ∀y∈b.2,0<=y/\y< (k:Int)) (fun b hb=> .end (aW _) (.ret ⟨b.1,rfl,hb.1,uY hb.2.2.1 hb.2.2.2⟩)) (fun k b hk hb=> ?_) (c,[]) ⟨h,aq _,List.Pairwise.nil,nofun⟩) fun y hy=> .ret hy;obtain⟨h1,h2,h3,h4⟩:=hb;have sw:=dV (n:=5) (by decide) hk;have stay: ∀y∈b.2,0<=y/\y< ((k+1:Nat):Int):=fun y hy=>by have:=h4 y hy; omega
 refine .go (show (k:Int)<5 by omega) (.dn (kt h1 2) fun c1 _ hc _=> .ip rfl (.br (fun _=> .ip (by show (b.2++ [(k:Int)]).length*8<=2 ^ 40; rw[aA,az]; omega) (.ret ⟨(c1,b.2++ [(k:Int)]),by rw[sw],hc,by rw[aA,az]; omega,?_,fun y hy=> ?_⟩)) fun _=> .ret ⟨(c1,b.2),by rw[sw],hc,ck h2,h3,stay⟩))
 ·exact da.2 ⟨h3,dh _ _,fun y hy z hz=>by rw[aE.1 hz]; exact (h4 y hy).2⟩
 ·rcases bf.1 hy with hy|hy
  ·exact stay y hy
  ·rw[aE.1 hy];omega
omit [dP] in
theorem NH {l:List eE} (h5:l.length=5) (h: ∀p∈l,(0<=p.rack/\p.rack<=9)/\(0<=p.capacity/\p.capacity<=9)/\0<=p.load/\p.load<=99):fo l=some (true,()):=by
 have lm:l.length<=maxLen:=by unfold maxLen; omega
 have gi:Tt (fun y:Bool×Unit=>y.1=true) (fo l):=by
  unfold fo;refine .bind (.count (B:=jD) (E:=Sum.elim (fun _=>False) fun e=>e.1.1=l) l.length (fun k (_:Unit)=>((l,(k:Int),()),(),())) (fun _ _=>True) (fun _ _=> .end (aW _) (.ret rfl)) (fun k _ hk _=> .go (aG.2 hk) (.ip (aw k) (.get (tn hk) fun p _ hp=> ?_))) () trivial) fun y hy=> ?_
  ·obtain⟨h1,_⟩:=h p hp;rw[gr,eG.2 h1,ae];refine .br (fun h=>by cases h) fun _=> .ip (aw k) (.get (tn hk) fun q _ hq=> ?_);obtain⟨_,h2,_⟩:=h q hq;rw[gr,eG.2 h2,ae];refine .br (fun h=>by cases h) fun _=> .ip (aw k) (.get (tn hk) fun r _ hr=> ?_);obtain⟨_,_,h3⟩:=h r hr;rw[gr,eG.2 h3,ae];exact .br (fun h=>by cases h) fun _=> .ret ⟨(),by rw[dV lm hk],trivial⟩
  ·cases y with
   |inl y=>exact hy.elim
   |inr y=>refine .ret ?_;show ((y.1.1.length:Int)==5)=true;rw[show y.1.1=l from hy,h5];rfl
 obtain⟨⟨b,_⟩,e,rfl⟩:=gi;exact e
theorem Kf {c:fT} (h:fF c):Dn (fun y:List eE×Unit=>y.1.length=5/\fo y.1=some (true,())) (ox [c]):=by
 refine NF ?_;unfold ox;refine .bind (.count (B:=pS) (E:=fun e=> ∃c,e.2.2.1= [c] /\fF c/\e.2.2.2.1.length=5/\fo e.2.2.2.1=some (true,())) 5 (fun k (b:fT×List eE)=>(((),(),(k:Int),()),(),[b.1],b.2,())) (fun k b=>fF b.1/\b.2.length=k/\ ∀p∈b.2,(0<=p.rack/\p.rack<=9)/\(0<=p.capacity/\p.capacity<=9)/\0<=p.load/\p.load<=99) (fun b hb=> .end (aW _) (.ret ⟨b.1,rfl,hb.1,hb.2.1,NH hb.2.1 hb.2.2⟩)) (fun k b hk hb=> ?_) (c,[]) ⟨h,rfl,nofun⟩) fun y hy=> .ret hy;obtain⟨h1,h2,h3⟩:=hb;refine .go (show (k:Int)<5 by omega) (.dn (mH h1 (n:=4) (by omega)) fun c1 x g1 hx=> .ip rfl (.dn (mH g1 (n:=4) (by omega)) fun c2 y g2 hy=> .ip rfl (.dn (mH g2 (n:=4) (by omega)) fun c3 z g3 hz=> .ip rfl (.ip ?_ (.ret ⟨(c3,b.2++ [⟨x.1,1+y.1,z.1⟩]),?_,g3,by rw[aA,az,h2],fun p hp=> ?_⟩)))))
 ·rw[aA,az,show List.length _=k from h2];omega
 ·dsimp only;rw[dV (n:=5) (by decide) hk,eX (n:=1+y.1) (by omega) (by omega)]
 ·rcases bf.1 hp with hp|hp
  ·exact h3 p hp
  ·rw[aE.1 hp];show (0<=x.1/\x.1<=9)/\(0<=1+y.1/\1+y.1<=9)/\0<=z.1/\z.1<=99;omega
omit [dP] in
theorem Kg (v:Int):Tt (fun y=>gf 1048576 y.1) (m9 v):=by
 unfold m9;rw[gr,ae];have ok: ∀v:Int,gf 1048576 ⟨true,true,v,0,⟨0,0,[],[]⟩,0,[],0,[]⟩:=fun _=>⟨⟨ay _,ay _⟩,ay _,ay _⟩
 exact .br (fun _=> .ret (ok _)) fun _=> .ret (ok _)
omit [dP] in
theorem Q9 (l:List eE) (hl:l.length<=1048576):Tt (fun y=>fk 1048576 y.1/\(fo l=some (true,())->y.1.servers.length=5)) (nE l):=by
 obtain⟨v,v1,_⟩:=qm l (eD hl);unfold nE;rw[v1,ae,dS];refine .br (fun e=> .ip (by decide) (.ip ?_ (.bind (.count (B:=nD) (E:=fun e=> ∃S:List dQ,S.length=5/\(∀s∈S,gf 1048576 s)/\e=(((),(),()),(fz,(0,(),(),(),0,3,0,0,0,(),()),()),S,List.replicate (5:Int).toNat (0:Int),[] ++l,())) 5 (fun k (S:List dQ)=>(((),(),(k:Int),()),(fz,(0,(),(),(),0,3,0,0,0,(),()),()),S,List.replicate (5:Int).toNat (0:Int),[] ++l,())) (fun k S=>S.length=k/\ ∀s∈S,gf 1048576 s) (fun S hS=> .end (aW _) (.ret ⟨S,hS.1,hS.2,rfl⟩)) (fun k S hk hS=> .go (show (k:Int)<5 by omega) (.bind (Kg 1) fun s hs=> .ip ?_ (.ret ⟨S++ [s.1],by rw[dV (n:=5) (by decide) hk],by rw[aA,az,hS.1],fun t ht=> ?_⟩))) [] ⟨rfl,nofun⟩) ?_))) fun _=> .ret ⟨⟨⟨ay _,nofun⟩,ay _,⟨ay _,nofun⟩,ay _⟩,fun e=>by simp_all⟩
 ·rw[aY];omega
 ·rw[aA,az,show List.length _=k from hS.1];omega
 ·exact (bf.1 ht).elim (hS.2 t) fun e=>by rw[aE.1 e]; exact hs
 ·rintro _ ⟨S,h5,hS,rfl⟩
  exact .ret ⟨⟨⟨by show S.length<=_; omega,hS⟩,by show (List.replicate (5:Int).toNat (0:Int)).length<=_; decide,⟨ay _,nofun⟩,hl⟩,fun _=>h5⟩
omit [dP] in
theorem NI {e p:Int} {R W:List Int} (he:1<=e/\e<=20) (hR:rz R) (hW:rz W) (hp:p∈R) (hd: ∀y∈R,y∉W):ey ⟨e,p,R,W⟩=some (true,()):=by have hr:=hR.len;have hw:=hW.len;unfold ey;simp only[gr,eG.2 he,ae,ef,(vx hR).1,(vx hW).1,(gb R p (by unfold maxLen; omega)).1,decide_eq_true hp,xT R W hR (by unfold maxLen; omega)];rw[List.filter_eq_nil_iff.2 fun y hy h=>hd y hy (of_decide_eq_true h)];rfl
theorem Ra {c:fT} (h:fF c) (e:Int):Dn (fun y:dR×Unit=>y.1.epoch=e/\y.1.replicas.length<=5/\y.1.witnesses.length<=5/\(1<=e/\e<=20->ey y.1=some (true,()))) (mT [c] e):=by
 unfold mT;refine .bind (mH h (n:=5) (by omega)) fun c1 p h1 hp=> .iteP rfl (.bind (NG h1) fun c2 l h2 hl=> .iteP rfl ?_);obtain⟨r,r1,r2,r3,_⟩:=Pq l.1 p.1 (by have:=hl.len; omega) hl.pair;rw[show jK _ _=_ from r1,ae]
 have gi: ∀R:List Int,rz R->p.1∈R->Dn (fun y:dR×Unit=>y.1.epoch=e/\y.1.replicas.length<=5/\y.1.witnesses.length<=5/\(1<=e/\e<=20->ey y.1=some (true,()))) ((gl [c2] 2).bind fun y5=>iteP (y5.1.length=([c2]:List fT).length) (br y5.2.1 ((pm y5.1).bind fun y6=>iteP (y6.1.length=y5.1.length) ((fJ y6.2.1 R).bind fun y7=>br (decide ((y7.1.length:Int)>0)) (iteP (0<=(0:Int)/\(0:Int)<=(1:Int)/\(1:Int)<=((y7.1.length:Nat):Int)) (iteP ((0+(0:Int).toNat)=0/\((1:Int).toNat-(0:Int).toNat)<=y7.1.length) (some (y6.1,(⟨e,p.1,R,(y7.1.take ((1:Int).toNat-(0:Int).toNat))⟩:dR),())) (iteP ((0+(0:Int).toNat)+((1:Int).toNat-(0:Int).toNat)<=y7.1.length) (some (y6.1,(⟨e,p.1,R,((y7.1.drop (0+(0:Int).toNat)).take ((1:Int).toNat-(0:Int).toNat))⟩:dR),())) none)) none) (some (y6.1,(⟨e,p.1,R,([]:List Int)⟩:dR),()))) none) (some (y5.1,(⟨e,p.1,R,([]:List Int)⟩:dR),()))) none):=fun R hR hpR=>by
  have nil:rz [] :=fun k hk=>by simp at hk
  have rl:=hR.len;refine .bind (kt h2 2) fun c3 _ h3 _=> .iteP rfl (.br (fun _=> .bind (NG h3) fun c4 w h4 hw=> .iteP rfl ?_) fun _=> .ret h3 ⟨rfl,rl,ay _,fun he=>NI he hR nil hpR fun _ _=>nofun⟩);rw[show fJ _ _=_ from Cq w.1 R hw (by unfold maxLen; omega),ae];have hf:=hw.filter fun x=> !decide (x∈R)
  have hn: ∀y∈R,y∉w.1.filter fun x=> !decide (x∈R):=fun y hy h=>by have:=(cF.1 h).2;simp[hy] at this
  have fl:=hf.len;generalize w.1.filter (fun x=> !decide (x∈R))=f at hf hn fl;refine .br (fun hpos=> ?_) fun _=> .ret h4 ⟨rfl,rl,ay _,fun he=>NI he hR nil hpR fun _ _=>nofun⟩;have hpos: (f.length:Int)>0:=of_decide_eq_true hpos;refine .iteP (by show (0:Int)<=0/\(0:Int)<=1/\(1:Int)<=(f.length:Int); omega) (.iteP (by show 0=0/\1<=f.length; omega) (.ret h4 ⟨rfl,rl,?_,fun he=>NI he hR ?_ hpR fun y hy h=>hn y hy (bR h)⟩))
  ·show (f.take _).length<=5;rw[aZ];omega
  ·exact uY (hf.pair.sublist (List.take_sublist _ _)) fun y hy=>o5 hf y (bR hy)
 have ra:rz r:=uY r2 fun y hy=>((r3 y).1 hy).elim (fun e=>by rw[e]; exact hp) (o5 hl y);refine .br (fun _=>gi [p.1] (uY (dh _ _) fun y hy=>by rw[aE.1 hy]; exact hp) (aE.2 rfl)) fun _=>gi r ra ((r3 _).2 (.inl rfl))
omit [dP] in
theorem Rb {M:dW} (h:rh 1048576 M) (hl:M.configs.length<=1000) {c:dR} (hc:iJ 1048576 c):rh 1048576 ⟨M.configs++ [c],M.activated⟩:=⟨by show (M.configs++ [c]).length<=_; rw[aA,az]; omega,fun d hd=>(bf.1 hd).elim (h.2 d) fun e=>by rw[aE.1 e]; exact hc⟩
theorem Sl {c:fT} (h:fF c):Dn (fun y:List Int×Unit=>y.1.length<=6) (vq [c]):=by
 unfold vq;refine .bind (NG h) fun c1 l h1 hl=> .iteP rfl (.bind (kt h1 _) fun c2 _ h2 _=> .iteP rfl (.br (fun _=> .bind (ir h2 (by simp)) fun c3 x h3 _=> .iteP rfl ?_) fun _=> .ret h2 ?_))
 ·have:=hl.len;refine .iteP ?_ (.ret h3 ?_)
  ·show (l.1++ [x.1]).length*8<=2 ^ 40;rw[aA,az];omega
  ·show (l.1++ [x.1]).length<=6;rw[aA,az];omega
 ·exact aO hl.len (by omega)
theorem NJ {c:fT} (h:fF c):Dn (fun y:dR×Unit=>iJ 1048576 y.1) (vr [c]):=by
 unfold vr;refine .bind (fV h _) fun c1 e h1 _=> .iteP rfl (.bind (Ra h1 _) fun c2 g h2 hg=> .iteP rfl (.bind (fV h2 _) fun c3 x h3 _=> .iteP rfl ?_));obtain⟨_,g1,g2,_⟩:=hg;have ok:iJ 1048576 g.1:=⟨by omega,by omega⟩
 refine .br (fun _=> .bind (ir h3 (by simp)) fun c4 _ h4 _=> .iteP rfl (.ret h4 ok)) fun _=> .br (fun _=> .bind (fV h3 _) fun c4 _ h4 _=> .iteP rfl (.ret h4 ok)) fun _=> .br (fun _=> .bind (Sl h3) fun c4 l h4 hl=> .iteP rfl (.ret h4 ⟨by show l.1.length<=_; omega,ok.2⟩)) fun _=> .br (fun _=> .bind (Sl h3) fun c4 l h4 hl=> .iteP rfl (.ret h4 ⟨ok.1,by show l.1.length<=_; omega⟩)) fun _=> .ret h3 ok
theorem Tb {c:fT} (h:fF c):Dn (fun y:dW×Unit=>rh 1048576 y.1/\y.1.configs.length<=10) (uJ [c]):=by
 unfold uJ;refine .bind (mH h (n:=5) (by omega)) fun c1 n h1 hn=> .iteP rfl (NF (.bind (.loop (B:=tz) (E:=fun e=> ∃c,e.2.2.1= [c] /\fF c/\rh 1048576 ⟨e.2.2.2.1,e.2.1.2.1.2.1⟩/\e.2.2.2.1.length<=10) (fun s=> ∃ (c:fT) (M:dW) (k:Int),s=(((),(),(),k,()),(((),0,()),((),M.activated,()),()),[c],M.configs,())/\fF c/\rh 1048576 M/\0<=k/\M.configs.length+k.toNat<=10) (fun s=>s.1.2.2.2.1.toNat) ?_ ⟨c1,⟨[],0⟩,n.1,rfl,h1,⟨ay _,nofun⟩,hn.1,by show 0+n.1.toNat<=10; omega⟩) fun y hy=> .ret hy))
 rintro _ ⟨c,M,k,rfl,hc,hM,h0,hl⟩
 refine .br (fun hk=> ?_) fun _=> .ret ⟨c,rfl,hc,hM,by show M.configs.length<=10; omega⟩;have hk:k>0:=of_decide_eq_true hk;have hw:IntKind.wrap .i64 (k-1)=k-1:=eX (by omega) (by omega);refine .dn (Ra hc _) fun c2 g h2 hg=> .ip rfl (.bind (zQ M hM g.1 ⟨by omega,by omega⟩) fun m hm=> .dn (kt h2 _) fun c3 _ h3 _=> .ip rfl (.br (fun _=> .bind (Cr m.1 hm.1 _) fun a ha=> .ret ⟨⟨c3,a.1,k-1,by dsimp only; rw[hw],h3,ha.1,by omega,by omega⟩,?_⟩) fun _=> .ret ⟨⟨c3,m.1,k-1,by dsimp only; rw[hw],h3,hm.1,by omega,by omega⟩,?_⟩))
 all_goals
  show (IntKind.wrap .i64 (k-1)).toNat<k.toNat;rw[hw];omega
theorem Tc {c:fT} (h:fF c):Dn (fun y:dW×Unit=>rh 1048576 y.1) (uK [c]):=by unfold uK;refine .bind (Tb h) fun c1 m h1 hm=> .iteP rfl (.bind (fV h1 _) fun c2 _ h2 _=> .iteP rfl (.br (fun _=> .bind (ir h2 (by simp)) fun c3 _ h3 _=> .iteP rfl (.ret h3 hm.1)) fun _=> .br (fun _=> .bind (NJ h2) fun c3 g h3 hg=> .iteP rfl (.iteP ?_ (.ret h3 (Rb hm.1 (by omega) hg)))) fun _=> .ret h2 hm.1));show (m.1.configs++ [g.1]).length*64<=2 ^ 40;rw[aA,az];omega
omit [dP] in
theorem NK (c:dR) (h:iJ maxLen c) (hv:ey c=some (true,())):Tt (fun y=>0<y.1.length/\y.1.length<=10) (gA c):=by unfold gA;rw[hv,ae];refine .br (fun h=>by cases h) fun _=> ?_;obtain⟨a1,a2,a3,_⟩:=xV h hv;have l1:=a1.len;have l2:=a2.len;obtain⟨r,r1,_,r4,r5⟩:=Nl c.replicas c.witnesses (by omega) (by omega);rw[r1];exact .ret ⟨List.length_pos_of_mem ((r4 c.primary).2 (.inl a3)),by show r.length<=10; omega⟩
omit [dP] in
theorem Td (l:List dY) (e:Int) (hl:l.length<=1048576):Tt (fun y=>y.1.length<=1048576) (uM l e):=by
 unfold uM;refine .bind (.count (B:=tA) (E:=fun y=> ∃k:Nat,k<=l.length/\y=((l,(k:Int),()),(),())) l.length (fun k (_:Unit)=>((l,e,(k:Int),()),(),())) (fun _ _=>True) (fun _ _=> .end (aW _) (.ret ⟨l.length,aq _,rfl⟩)) (fun k _ hk _=> .go (aG.2 hk) (.ip (aw k) (.get (tn hk) fun _ _ _=> .br (fun _=> .ret ⟨(),by rw[dV (eD hl) hk],trivial⟩) fun _=> .ret ⟨k,Nat.le_of_lt hk,rfl⟩))) () trivial) ?_
 rintro _ ⟨k,hk,rfl⟩
 have h2: ((l.drop (0:Int).toNat).take ((k:Int).toNat-(0:Int).toNat)).length<=1048576:=by rw[aZ,bk];omega
 exact .ip ⟨bP _,aw k,Int.ofNat_le.2 hk⟩ (.bind (Q:=fun y=>y.1.length<=1048576) ⟨_,xX h2,h2⟩ fun y hy=> .ret hy)
theorem PB {c:fT} (h:fF c):Dn (fun y:dQ×Int×Unit=>gf 1048576 y.1) (pn [c]):=by
 unfold pn;refine .bind (fV h _) fun c1 _ h1 _=> .iteP rfl (.tt (Kg _) fun s hs=> .bind (mH h1 (n:=3) (by omega)) fun c2 e h2 he=> .iteP rfl (.bind (Ra h2 _) fun c3 g h3 hg=> .iteP rfl ?_));have hw:IntKind.wrap .i64 (1+e.1)=1+e.1:=eX (by omega) (by omega);obtain⟨g0,g1,g2,g3⟩:=hg;have g3:=g3 (by rw[hw]; omega);have okc:iJ 1048576 g.1:=⟨by omega,by omega⟩
 refine .tt (NK g.1 (eO okc) g3) fun m hm=> .bind (mH h3 (n:=(m.1.length:Int)) (by omega)) fun c4 i h4 hi=> .iteP rfl (.iteP hi (.get (by show i.1.toNat<m.1.length; omega) fun z _=> .bind (kt h4 _) fun c5 _ h5 _=> .iteP rfl ?_))
 have fin: ∀ (c6:fT) (t:dQ),fF c6->gf 1048576 t-> ∀up:Bool,Dn (fun y:dQ×Int×Unit=>gf 1048576 y.1) ((gl [c6] 4).bind fun y46=>iteP (y46.1.length=([c6]:List fT).length) (br y46.2.1 ((eb y46.1 3).bind fun y47=>iteP (y47.1.length=y46.1.length) ((jq (⟨up,t.intact,t.version,t.epoch,t.config,t.first,t.log,t.commit,t.learned⟩:dQ) (IntKind.wrap .i64 (4+y47.2.1))).bind fun y48=>some (y47.1,y48.1,z,())) none) (some (y46.1,(⟨up,t.intact,t.version,t.epoch,t.config,t.first,t.log,t.commit,t.learned⟩:dQ),z,()))) none):=fun c6 t h6 ht up=>.bind (kt h6 _) fun c7 _ h7 _=> .iteP rfl (.br (fun _=> .bind (fV h7 _) fun c8 _ h8 _=> .iteP rfl (.tt (Hx ⟨up,t.intact,t.version,t.epoch,t.config,t.first,t.log,t.commit,t.learned⟩ _ ht) fun u hu=> .ret h8 hu)) fun _=> .ret h7 ht)
 rw[dS];refine .br (fun _=> .bind (kt h5 _) fun c6 _ h6 _=> .iteP rfl (.br (fun _=>fin c6 s.1 h6 hs _) fun _=>fin c6 s.1 h6 hs _)) fun _=> .bind (Nh h5) fun c6 l h6 hl=> .iteP rfl (.tt (Td l.1 _ (by omega)) fun l2 hl2=> .tt (Hy s.1 g.1 z l2.1 hs okc hl2) fun t ht=> .bind (kt h6 _) fun c7 _ h7 _=> .iteP rfl (.br (fun _=>fin c7 t.1 h7 ht _) fun _=>fin c7 t.1 h7 ht _))
theorem Lk {c:fT} (h:fF c):Dn (fun y:dQ×Int×Unit=>gf 1048576 y.1) (uN [c]):=by unfold uN;refine .bind (PB h) fun c1 s h1 hs=> .iteP rfl (.bind (fV h1 _) fun c2 _ h2 _=> .iteP rfl ?_);refine .br (fun _=> .bind (ir h2 (by simp)) fun c3 _ h3 _=> .iteP rfl (.ret h3 hs)) fun _=> .br (fun _=> .bind (ir h2 (by simp)) fun c3 _ h3 _=> .iteP rfl (.ret h3 hs)) fun _=> .br (fun _=> .bind (NJ h2) fun c3 g h3 hg=> .iteP rfl (.ret h3 ⟨hg,hs.2⟩)) fun _=> .br (fun _=> .bind (ir h2 (by simp)) fun c3 _ h3 _=> .iteP rfl (.ret h3 hs)) fun _=> .br (fun _=> .bind (ir h2 (by simp)) fun c3 _ h3 _=> .iteP rfl (.ret h3 hs)) fun _=> .br (fun _=> .bind (fV h2 _) fun c3 _ h3 _=> .iteP rfl (.ret h3 hs)) fun _=> .br (fun _=> .bind (Lc h2) fun c3 l h3 hl=> .iteP rfl (.ret h3 ⟨hs.1,by show l.1.length<=_; omega,hs.2.2⟩)) fun _=> .ret h2 hs
theorem NL {c:fT} (h:fF c):Dn (fun y:List Int×Unit=>y.1.length<=5) (uI [c]):=by
 unfold uI;refine .bind (Ng h) fun c1 l h1 hl=> .iteP rfl (.bind (fV h1 _) fun c2 _ h2 _=> .iteP rfl (.br (fun _=> ?_) fun _=> .br (fun _=> .bind (ir h2 (by simp)) fun c3 x h3 _=> .iteP rfl (.iteP ?_ (.get ?_ fun _ _=> .ret h3 ?_))) fun _=> .ret h2 (dz hl)))
 ·have hl:l.1.length=5:=hl;refine .iteP (by show (0:Int)<=1/\(1:Int)<=(l.1.length:Int)/\(l.1.length:Int)<=(l.1.length:Int); omega) ?_;rw[eh,if_neg (by intro h; exact absurd h.1 (by decide))];refine .iteP (by show 0+(1:Int).toNat+((l.1.length:Int).toNat-(1:Int).toNat)<=l.1.length; omega) (.ret h2 ?_);show ((l.1.drop (0+(1:Int).toNat)).take ((l.1.length:Int).toNat-(1:Int).toNat)).length<=5;rw[aZ,bk];omega
 ·have hl:l.1.length=5:=hl;show (0:Int)<=1/\(1:Int)< (l.1.length:Int);omega
 ·have hl:l.1.length=5:=hl;show (1:Int).toNat<l.1.length;omega
 ·show (l.1.set _ _).length<=5;rw[bg];exact dz hl
theorem Ll {c:fT} (h:fF c):Dn (fun y:List eE×Unit=>y.1.length<=5) (xJ [c]):=by
 unfold xJ;refine .bind (Kf h) fun c1 l h1 hl=> .iteP rfl (.bind (fV h1 _) fun c2 _ h2 _=> .iteP rfl ?_);have hl:l.1.length=5:=hl.1;refine .br (fun _=> ?_) fun _=> .br (fun _=> .bind (ir h2 (by simp)) fun c3 x h3 _=> .iteP rfl (.iteP (by show (0:Int)<=0/\(0:Int)< (l.1.length:Int); omega) (.get (by show (0:Int).toNat<l.1.length; omega) fun _ _=> .ret h3 ?_))) fun _=> .br (fun _=> .bind (ir h2 (by simp)) fun c3 x h3 _=> .iteP rfl (.iteP (by show (0:Int)<=1/\(1:Int)< (l.1.length:Int); omega) (.get (by show (1:Int).toNat<l.1.length; omega) fun _ _=> .ret h3 ?_))) fun _=> .ret h2 (dz hl)
 ·refine .iteP (by show (0:Int)<=1/\(1:Int)<=(l.1.length:Int)/\(l.1.length:Int)<=(l.1.length:Int); omega) ?_;rw[eh,if_neg (by intro h; exact absurd h.1 (by decide))];refine .iteP (by show 0+(1:Int).toNat+((l.1.length:Int).toNat-(1:Int).toNat)<=l.1.length; omega) (.ret h2 ?_);show ((l.1.drop (0+(1:Int).toNat)).take ((l.1.length:Int).toNat-(1:Int).toNat)).length<=5;rw[aZ,bk];omega
 ·show (l.1.set _ _).length<=5;rw[bg];omega
 ·show (l.1.set _ _).length<=5;rw[bg];omega
theorem NM {c:fT} (h:fF c):Dn (fun y:dN×Unit=>fk 1048576 y.1/\y.1.servers.length=5) (nY [c]):=by unfold nY;refine .bind (Kf h) fun c1 l h1 hl=> .iteP rfl (.tt (Q9 l.1 (by have:=hl.1; omega)) fun x hx=> .bind (Lb h1 (by omega) (by omega)) fun c2 e h2 he=> .iteP rfl (.tt (Ja x.1 hx.1 e.1 (by omega)) fun y hy=> .ret h2 ⟨hy.1.1,hy.1.2.trans (hx.2 hl.2)⟩))
theorem Jb {c:fT} (h:fF c):Dn (fun y:dN×Unit=>fk 1048576 y.1/\y.1.servers.length=5) (uO [c]):=by unfold uO;refine .bind (NM h) fun c1 x h1 hx=> .iteP rfl (.bind (fV h1 _) fun c2 _ h2 _=> .iteP rfl ?_);obtain⟨⟨x1,x2,x3,x4⟩,x5⟩:=hx;refine .br (fun _=> .bind (ir h2 (by simp)) fun c3 _ h3 _=> .iteP rfl (.ret h3 ⟨⟨x1,x2,x3,x4⟩,x5⟩)) fun _=> .br (fun _=> .bind (NL h2) fun c3 l h3 hl=> .iteP rfl (.ret h3 ⟨⟨x1,by show l.1.length<=_; omega,x3,x4⟩,x5⟩)) fun _=> .br (fun _=> .bind (Tc h2) fun c3 m h3 hm=> .iteP rfl (.ret h3 ⟨⟨x1,x2,hm,x4⟩,x5⟩)) fun _=> .br (fun _=> .bind (ir h2 (by simp)) fun c3 _ h3 _=> .iteP rfl (.ret h3 ⟨⟨x1,x2,x3,x4⟩,x5⟩)) fun _=> .br (fun _=> .bind (Nd h2) fun c3 _ h3 _=> .iteP rfl (.ret h3 ⟨⟨x1,x2,x3,x4⟩,x5⟩)) fun _=> .br (fun _=> .bind (Ll h2) fun c3 l h3 hl=> .iteP rfl (.ret h3 ⟨⟨x1,x2,x3,by show l.1.length<=_; omega⟩,x5⟩)) fun _=> .br (fun _=> .bind (Lk h2) fun c3 s h3 hs=> .iteP rfl (.bind (mH h3 (n:=5) (by omega)) fun c4 i h4 hi=> .iteP rfl (.iteP (by show 0<=i.1/\i.1< (x.1.servers.length:Int); rw[x5]; exact hi) (.get (by show i.1.toNat<x.1.servers.length; omega) fun _ _=> .ret h4 ⟨⟨u3 x1 hs _,x2,x3,x4⟩,by show (x.1.servers.set _ _).length=5; rw[bg]; exact x5⟩)))) fun _=> .ret h2 ⟨⟨x1,x2,x3,x4⟩,x5⟩
omit [dP] in
end
end Go.Proofs.YtadabkgmdllbfaaGreat.En
namespace Go.Proofs.YtadabkgmdllbfaaGreat.En
open Go
theorem Tt.tru {r:Option (Bool×Unit)} (h:Tt (fun y=>y.1=true) r):r=some (true,()):=by obtain⟨⟨b,_⟩,e,rfl⟩:=h;exact e
theorem Rc (l:List Int) (hl:l.length<=maxLen):kr l l=some (true,()):=by
 refine Tt.tru ?_;unfold kr;rw[dS,beq_self_eq_true];refine .br (fun _=> .bind (.count (B:=i7) (E:=Sum.elim (fun _=>False) fun _=>True) l.length (fun k (_:Unit)=>((l,l,(l.length:Int),(k:Int),()),(),())) (fun _ _=>True) (fun _ _=> .end (aW _) (.ret trivial)) (fun k _ hk _=> .go (aG.2 hk) (.ip (aw k) (.get (tn hk) fun x e _=> .ip (aw k) (.get (tn hk) fun y e2 _=> ?_)))) () trivial) fun y hy=> ?_) (fun h=>by cases h)
 ·obtain rfl:x=y:=Option.some.inj ((show l[k]? =some x from e).symm.trans (show l[k]? =some y from e2));rw[beq_self_eq_true];exact .br (fun h=>by cases h) fun _=> .ret ⟨(),by rw[dV hl hk],trivial⟩
 ·cases y with
  |inl y=>exact hy.elim
  |inr y=>exact .ret rfl
theorem NN (l:List eE) (hl:l.length<=maxLen):lH l l=some (true,()):=by
 refine Tt.tru ?_;unfold lH;rw[dS,beq_self_eq_true];refine .br (fun _=> .bind (.count (B:=lX) (E:=Sum.elim (fun _=>False) fun _=>True) l.length (fun k (_:Unit)=>((l,l,(l.length:Int),(k:Int),()),(),())) (fun _ _=>True) (fun _ _=> .end (aW _) (.ret trivial)) (fun k _ hk _=> .go (aG.2 hk) (.ip (aw k) (.get (tn hk) fun x e _=> .ip (aw k) (.get (tn hk) fun y e2 _=> ?_)))) () trivial) fun y hy=> ?_) (fun h=>by cases h)
 ·obtain rfl:x=y:=Option.some.inj ((show l[k]? =some x from e).symm.trans (show l[k]? =some y from e2));simp only[beq_self_eq_true,Bool.and_self];exact .br (fun h=>by cases h) fun _=> .ret ⟨(),by rw[dV hl hk],trivial⟩
 ·cases y with
  |inl y=>exact hy.elim
  |inr y=>exact .ret rfl
theorem So (s:dQ) (h:gf 1048576 s):iz s s=some (true,()):=by unfold iz;simp only[beq_self_eq_true,ef,(gR s.config s.config (eO h.1)).2,Nm s.log s.log (eD h.2.1),Nm s.learned s.learned (eD h.2.2),decide_true,ae]
theorem Te (m:dW) (h:rh 1048576 m):jB m m=some (true,()):=by
 have hl:=eD h.1;refine Tt.tru ?_;unfold jB fH;rw[beq_self_eq_true,dS,beq_self_eq_true];refine .br (fun _=> .bind (Q:=fun y=>y.1=true) (.br (fun _=> .bind (.count (B:=fw) (E:=Sum.elim (fun _=>False) fun _=>True) m.configs.length (fun k (_:Unit)=>((m.configs,(),m.configs,(m.configs.length:Int),(k:Int),()),(),())) (fun _ _=>True) (fun _ _=> .end (aW _) (.ret trivial)) (fun k _ hk _=> .go (aG.2 hk) (.ip (aw k) (.get (tn hk) fun x e hx=> .ip (aw k) (.get (tn hk) fun y e2 _=> ?_)))) () trivial) fun y hy=> ?_) (fun h=>by cases h)) fun y hy=> .ret hy) (fun h=>by cases h)
 ·obtain rfl:x=y:=Option.some.inj ((show m.configs[k]? =some x from e).symm.trans (show m.configs[k]? =some y from e2));rw[(gR x x (eO (h.2 x hx))).2,decide_eq_true rfl,ae];exact .br (fun h=>by cases h) fun _=> .ret ⟨(),by rw[dV hl hk],trivial⟩
 ·cases y with
  |inl y=>exact hy.elim
  |inr y=>exact .ret rfl
theorem Lm (x:dN) (ok:fk 1048576 x):fX x x=some (true,()):=by
 have hl:=eD ok.1.1;refine Tt.tru ?_;unfold fX ff;simp only[beq_self_eq_true,Bool.and_self,ef,Rc x.sides (eD ok.2.1),Te x.master ok.2.2.1,NN x.places (eD ok.2.2.2),ae];rw[dS];refine .bind (Q:=fun y=>y.1=true) (.br (fun _=> .bind (.count (B:=eU) (E:=Sum.elim (fun _=>False) fun _=>True) x.servers.length (fun k (_:Unit)=>((x.servers,(),x.servers,(x.servers.length:Int),(k:Int),()),(),())) (fun _ _=>True) (fun _ _=> .end (aW _) (.ret trivial)) (fun k _ hk _=> .go (aG.2 hk) (.ip (aw k) (.get (tn hk) fun s e hs=> .ip (aw k) (.get (tn hk) fun t e2 _=> ?_)))) () trivial) fun y hy=> ?_) (fun h=>by cases h)) fun y hy=> .br (fun _=> .ret rfl) fun h=>by rw[h] at hy; cases hy
 ·obtain rfl:s=t:=Option.some.inj ((show x.servers[k]? =some s from e).symm.trans (show x.servers[k]? =some t from e2));rw[So s (ok.1.2 s hs),ae];exact .br (fun h=>by cases h) fun _=> .ret ⟨(),by rw[dV hl hk],trivial⟩
 ·cases y with
  |inl y=>exact hy.elim
  |inr y=>exact .ret rfl
end Go.Proofs.YtadabkgmdllbfaaGreat.En
namespace Go.Proofs.YtadabkgmdllbfaaGreat.En
open Go
abbrev Rd (s:dQ) (b:Bool):dQ:=⟨b,s.intact,s.version,s.epoch,s.config,s.first,s.log,s.commit,s.learned⟩
theorem Sq (x:dN) (ok:fk 1048576 x) (hv:dT x=some (true,())) {i:Nat} {s:dQ} (hs:x.servers[i]? =some s) (b:Bool):fk 1048576 (P2 x (x.servers.set i (Rd s b)))/\dT (P2 x (x.servers.set i (Rd s b)))=some (true,()):=by
 have hlt:=jM hs;have he:x.servers[i] =s:=Option.some.inj ((ah hlt).symm.trans hs);refine QW ok hv _ bg (fun t ht=>(cd ht).elim (ok.1.2 t) fun e=>e ▸ (show gf 1048576 (Rd s b) from ok.1.2 s (au hs))) fun k hk=> ?_;have hk':k<x.servers.length:=by rw[bg] at hk; exact hk
 rw[List.getElem_set];have h:=P1 ok hv;split
 ·next e=>subst e;obtain⟨a1,a2,a3,a4⟩:=h i hlt;rw[he] at a1 a2 a3 a4;exact⟨a1,a2,a3,a4⟩
 ·exact h k hk'
theorem Re (x:dN) (ok:fk 1048576 x) (id:Int): ∃y n,iH x id=some (y,n,())/\mr x id=some (y,n,())/\fk 1048576 y/\(n=0->kJ y id=some (x,0,())):=by
 obtain⟨b,b1,b2,b3⟩:=za x id ok;unfold iH mr sM;simp only[(gp x ok).1,(gp x ok).2,b1,b2,ae,dS];cases b with
 |false=>exact⟨x,1,rfl,rfl,ok,nofun⟩
 |true=>
  obtain⟨hv,h0,h5⟩:=b3 rfl;obtain⟨s,s1,_⟩:=zO ok (i8 ok hv) ⟨h0,h5⟩;have hlt:=jM s1;have c:0<=id/\id< (x.servers.length:Int):=⟨h0,by omega⟩
  simp only[ef,eh,if_pos h0,if_pos c,s1,ae];cases hu:s.up with
  |false=>exact⟨x,2,rfl,rfl,ok,nofun⟩
  |true=>
   obtain⟨ok',hv'⟩:=Sq x ok hv s1 false;refine⟨_,0,rfl,rfl,ok',fun _=> ?_⟩;have hg:=QU ok' hv' ⟨h0,h5⟩;have c':0<=id/\id< ((x.servers.set id.toNat (Rd s false)).length:Int):=by rw[bg]; exact c
   have e: (x.servers.set id.toNat (Rd s false))[id.toNat]? =some (Rd s false):=dp hlt
   have e2: (x.servers.set id.toNat (Rd s false)).set id.toNat s=x.servers:=by
    rw[List.set_set]
    exact bA fun k=>by
     by_cases hk:id.toNat=k
     ·subst hk;rw[dp hlt,s1]
     ·rw[dC hk]
   have es: (⟨true,s.intact,s.version,s.epoch,s.config,s.first,s.log,s.commit,s.learned⟩:dQ)=s:=by rw[<-hu]
   unfold kJ sM;simp only[(gp _ ok').2,hg,ae,dS,ef,eh,if_pos h0,if_pos c',e,es,e2,beq_self_eq_true];rfl
theorem Sr (x:dN) (ok:fk 1048576 x) (id:Int): ∃y n,lA x id=some (y,n,())/\q8 x id=some (y,n,())/\fk 1048576 y:=by
 obtain⟨b,b1,b2,b3⟩:=za x id ok;unfold lA q8;simp only[(gp x ok).1,(gp x ok).2,b1,b2,ae,dS];cases b with
 |false=>exact⟨x,1,rfl,rfl,ok⟩
 |true=>
  obtain⟨hv,h0,h5⟩:=b3 rfl;obtain⟨s,s1,_⟩:=zO ok (i8 ok hv) ⟨h0,h5⟩;have hlt:=jM s1;have c:0<=id/\id< (x.servers.length:Int):=⟨h0,by omega⟩
  simp only[ef,eh,if_pos h0,if_pos c,s1,ae,nU,qa];exact⟨_,0,rfl,rfl,⟨u3 ok.1 ⟨⟨ay _,ay _⟩,ay _,ay _⟩ _,ok.2⟩⟩
theorem NP (x:dN) (ok:fk 1048576 x) (n:Int): ∃y k,js x n=some (y,k,())/\om x n=some (y,k,())/\fk 1048576 y:=by
 obtain⟨v,v1,v2⟩:=gt x ok;unfold js om;simp only[(gp x ok).1,(gp x ok).2,v1,v2,gr,qc,ae,dS];cases v with
 |false=>exact⟨x,1,rfl,rfl,ok⟩
 |true=>
  simp only[ef];cases kK n 0 3 with
  |false=>exact⟨x,1,rfl,rfl,ok⟩
  |true=>exact⟨_,0,rfl,rfl,ok⟩
theorem Ss (x:dN) (ok:fk 1048576 x) (a b:Int): ∃y k,jr x a b=some (y,k,())/\oh x a b=some (y,k,())/\fk 1048576 y:=by
 obtain⟨v,v1,v2⟩:=gt x ok;obtain⟨u,u1,u2⟩:=sP x.sides (eD ok.2.1)
 have hm: ∃l t,mS x.sides a b=some (l,t,())/\q9 x.sides a b=some (l,t,())/\l.length=x.sides.length:=by
  unfold mS q9;simp only[aY,eh,u1,u2,gr,qc,ae,dS,J4 x.sides ok.2.1];rw[if_pos (show x.sides.length*8<=2 ^ 40 by have:=ok.2.1; omega)];cases u with
  |false=>exact⟨_,_,rfl,rfl,rfl⟩
  |true=>
   simp only[ef];cases hw:kK a 0 4 with
   |false=>exact⟨_,_,rfl,rfl,rfl⟩
   |true=>
    simp only[ef];cases kK b 0 3 with
    |false=>exact⟨_,_,rfl,rfl,rfl⟩
    |true=>have hw:=eG.1 hw;have hl:=pu (eD ok.2.1) u1;simp only[ef];rw[if_pos ⟨hw.1,by omega⟩,ah (by omega)];exact⟨_,_,rfl,rfl,bg⟩
 obtain⟨l,t,l1,l2,l3⟩:=hm;unfold jr oh;simp only[(gp x ok).1,(gp x ok).2,v1,v2,l1,l2,ae,dS];cases v<;>cases t
 case true.true=>exact⟨_,0,rfl,rfl,⟨ok.1,by show l.length<=1048576; rw[l3]; exact ok.2.1,ok.2.2⟩⟩
 all_goals exact⟨x,1,rfl,rfl,ok⟩
theorem Su (x:dN) (ok:fk 1048576 x) (t:Int): ∃y n,km x t=some (y,n,())/\rc x t=some (y,n,())/\fk 1048576 y/\(n=0->y.now=IntKind.wrap .i64 (x.now+t)):=by
 obtain⟨v,v1,v2⟩:=gt x ok;unfold km rc;simp only[(gp x ok).1,(gp x ok).2,v1,v2,gr,qc,ae,dS];cases v with
 |false=>exact⟨x,1,rfl,rfl,ok,nofun⟩
 |true=>
  simp only[ef];cases kK t 0 (IntKind.wrap .i64 (999-x.now)) with
  |false=>exact⟨x,1,rfl,rfl,ok,nofun⟩
  |true=>exact⟨⟨IntKind.wrap .i64 (x.now+t),x.servers,x.sides,x.master,x.masterUp,x.lease,x.places⟩,0,rfl,rfl,ok,fun _=>rfl⟩
end Go.Proofs.YtadabkgmdllbfaaGreat.En
namespace Go.Proofs.YtadabkgmdllbfaaGreat.En
open Go
section
variable [dP]
theorem Cu {x:Hd} {l:List Int} (h:l6 x=some l) (hl:l.length<=maxLen) (hb: ∀m∈l,0<=m/\m<=255):Dn (fun y:dN×Int×Unit=>fk 1048576 y.1/\y.1.servers.length=5) (lU x):=by unfold lU;exact .bind (QT h hl hb) fun c1 _ h1 _=> .bind (Jb h1) fun c2 x h2 hx=> .iteP rfl (.bind (fV h2 _) fun c3 _ h3 _=> .iteP rfl (.ret h3 hx))
theorem Ln {x:Hd} {l:List Int} (h:l6 x=some l) (hl:l.length<=maxLen) (hb: ∀m∈l,0<=m/\m<=255):Tt (fun y=>fk 1048576 y.1) (jv x):=by unfold jv;exact .dn (Cu h hl hb) fun c y hc hy=> .ret hy.1
theorem NQ {x:Hd} {l:List Int} (h:l6 x=some l) (hl:l.length<=maxLen) (hb: ∀m∈l,0<=m/\m<=255):Tt (fun y=>fk 1048576 y.1) (lI x):=by unfold lI;exact .dn (Cu h hl hb) fun c y hc hy=> .ret hy.1
theorem NR {x:Hd} {l:List Int} (h:l6 x=some l) (hl:l.length<=maxLen) (hb: ∀m∈l,0<=m/\m<=255):Tt (fun y=>fk 1048576 y.1) (jZ x):=by unfold jZ;exact .dn (Cu h hl hb) fun c y hc hy=> .dn (fV hc _) fun c2 _ _ _=> .ip rfl (.ret hy.1)
theorem Hz {x:Hd} {l:List Int} (h:l6 x=some l) (hl:l.length<=maxLen) (hb: ∀m∈l,0<=m/\m<=255):Tt (fun y=>fk 1048576 y.1) (j3 x):=by unfold j3;exact .dn (Cu h hl hb) fun c y hc hy=> .dn (fV hc _) fun c2 _ _ _=> .ip rfl (.ret hy.1)
theorem NS {x:Hd} {l:List Int} (h:l6 x=some l) (hl:l.length<=maxLen) (hb: ∀m∈l,0<=m/\m<=255):Tt (fun y=>fk 1048576 y.1) (lJ x):=by unfold lJ;exact .dn (Cu h hl hb) fun c y hc hy=> .dn (ir hc (by simp)) fun c2 _ _ _=> .ip rfl (.ret hy.1)
theorem Fu (x:Hd) (l:List Int) (h:l6 x=some l) (hl:l.length<=maxLen) (hb: ∀m∈l,0<=m/\m<=255):qb x=some (true,()):=by
 refine Tt.tru ?_;unfold qb;refine .bind (Q:=T1) (by unfold MZ; exact .ret trivial) fun _ _=> .br (fun _=> .ret rfl) fun _=> .bind (Ln h hl hb) fun a ha=> ?_;obtain⟨y,n,s1,i1,oky,re⟩:=Re a.1 ha a.2.1;rw[i1,s1,ae,ae,dS,beq_self_eq_true];refine .br (fun _=> ?_) (fun h=>by cases h);rw[Lm y oky,ae,dS];refine .br (fun _=> ?_) (fun h=>by cases h)
 extract_lets j22
 have h22:Tt (fun y=>y.1=true) j22:=by unfold j22;refine .bind (NQ h hl hb) fun b hb2=> ?_;obtain⟨u,p,s2,i2,oku⟩:=Sr b.1 hb2 b.2.1;rw[i2,s2,ae,ae];refine .bind (NR h hl hb) fun d hd=> ?_;obtain⟨v,q,s3,i3,okv⟩:=Ss d.1 hd d.2.1 d.2.2.1;rw[i3,s3,ae,ae];refine .bind (Hz h hl hb) fun e he=> ?_;obtain⟨w,r,s4,i4,okw⟩:=NP e.1 he e.2.1;rw[i4,s4,ae,ae];refine .bind (NS h hl hb) fun f hf=> ?_;obtain⟨z,t,s5,i5,okz,hz⟩:=Su f.1 hf f.2.1;rw[i5,s5,ae,ae];simp only[beq_self_eq_true,ef,Lm u oku,Lm v okv,Lm w okw,Lm z okz,ae,dS];exact .br (fun h0=> .ret (beq_iff_eq.2 (hz (eq_of_beq h0)))) fun _=> .ret rfl
 refine .br (fun h0=> ?_) fun _=>h22;rw[re (eq_of_beq h0),ae,dS,beq_self_eq_true];refine .br (fun _=> ?_) (fun h=>by cases h);rw[Lm a.1 ha,ae,dS];exact .br (fun _=>h22) (fun h=>by cases h)
end
end Go.Proofs.YtadabkgmdllbfaaGreat.En
