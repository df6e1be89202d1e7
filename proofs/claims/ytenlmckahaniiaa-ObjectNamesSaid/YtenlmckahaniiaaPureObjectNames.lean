/- The law ObjectNames, as the printed row asks it: proved in YtenlmckahaniiaaMyObL4. -/
import Derived.Test.YtenlmckahaniiaaMyObL4
