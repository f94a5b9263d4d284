/- laws.FnRacesWon's last tests, walked: it returns true. Conditions: what is asked answers as told. -/
import Derived.Test.YtiknaldhjbdnbaaGreatDoorcGB611
import Derived.Test.YtiknaldhjbdnbaaGreatDoorcGB740
import Derived.Test.YtiknaldhjbdnbaaGreatDoorcGB663
